/- The document's Public, Sign, Parts, Recover. -/
import Derived.Test.YtmnendoloankgaaDoorRfe
import Derived.Test.YtmnendoloankgaaDoorRff
import Derived.Test.YtmnendoloankgaaDoorSmd
namespace Go.Proofs.YtmnendoloankgaaDoor
set_option linter.unusedVariables false
set_option linter.unusedSimpArgs false
open Go.RowKit
open Kit (Chg)
open Sha (v)
open Go.Proofs.YtmnendoloankgaaDoor.One

theorem starts_size {vs : List ByteArray} {seed : List Nat} {L : Nat} (h : vs.map nb = starts seed L) : ∀ s ∈ vs, s.size = 32 := fun s hs => by
  have h1 : nb s ∈ vs.map nb := List.mem_map.2 ⟨s, hs, rfl⟩
  rw [h] at h1
  obtain ⟨i, _, he⟩ := List.mem_map.1 h1
  rw [← nb_length, ← he]
  exact secret_length _ _
theorem starts_len {vs : List ByteArray} {seed : List Nat} {L : Nat} (h : vs.map nb = starts seed L) : vs.length = L := by
  have := congrArg List.length h
  simpa [starts] using this
theorem zeros_get (L : Nat) (i : Nat) : (List.replicate L 0).getD i 0 = 0 := by
  rw [List.getD_eq_getElem?_getD, List.getElem?_replicate]
  split <;> rfl
theorem mk_ints (L : Nat) (hL : L ≤ 100000) (W : World) : (Instr.makeSlice 27 (.int .i64 (L : Int)) (.int .i64 (L : Int))).run Tryd.prog W = .ok (.slice (some ⟨W.heap.size, 0, none⟩) L L) (W.alloc (.cells (natV (List.replicate L 0)).toArray 3)) := by
  obtain ⟨i0, hi0, hz0, hz1, hz2⟩ := info_parts Tryd.info3
  have h := run_makeSlice (P := Tryd.prog) (w := W) 27 3 i0 _ Tryd.underlying27 hi0 hz0 .i64 .i64 (L : Int) (L : Int) (by omega) (by omega) (by rw [hz1]; omega) (by rw [hz2]; omega) (by omega)
  rw [h, hz1]
  simp only [Int.toNat_natCast, Nat.mul_one]
  have e : madeCells (Value.int .i64 0).cells L = (natV (List.replicate L 0)).toArray := by
    unfold madeCells natV
    simp [Value.cells]
    apply Array.ext
    · simp
    · intro i h1 h2
      simp [Nat.mod_one]
  rw [e]
theorem ints_of_row {w : World} {g : Nat} {zs : List Nat} {t : TypeId} {fr : Nat × Nat} (h : w.heap[g]? = some (.cells (natV zs).toArray t fr)) : IntsAt w (some ⟨g, 0, none⟩) zs := by
  refine .inr ⟨g, 0, rfl, fun i hi => ?_⟩
  rw [Nat.zero_add, cell_of_row _ _ _ _ _ _ h, List.getElem?_toArray]
  exact natV_get zs i hi
theorem flat_len32 : ∀ l : List (List Nat), (∀ x ∈ l, x.length = 32) → l.flatten.length = 32 * l.length
  | [], _ => rfl
  | x :: l, h => by
    rw [List.flatten_cons, List.length_append, h x (List.mem_cons_self ..), flat_len32 l (fun y hy => h y (List.mem_cons_of_mem _ hy)), List.length_cons]
    omega
theorem endsS_length (B : Nat) (steps : List Nat) (parts : List (List Nat)) (n : Nat) (h : ∀ i, i < n → (parts.getD i []).length = 32) : (endsS B steps parts n).length = 6 + 32 * n := by
  unfold endsS
  rw [List.length_append, flat_len32 _ (ends_len32 B steps parts n h), ends_length]
  rfl
theorem parts32 {ss : List ByteArray} (h : ∀ s ∈ ss, s.size = 32) (i : Nat) (hi : i < ss.length) : ((ss.map nb).getD i []).length = 32 := by
  rw [getD_map ss i hi, nb_length]
  exact h _ (getD_mem _ _ _ hi)
set_option maxRecDepth 100000 in
set_option maxHeartbeats 2000000 in
theorem refPublic_ok (b n : Nat) (hB : Bits b) (hn : 0 < n) (hn2 : n ≤ 32) (seed : ByteArray) (hs : seed.size = 32) (w : World) :
    Calls Tryd.prog 36 #[.agg #[.int .i64 (b : Int), .int .i64 (n : Int)], .string seed] w fun e w' => ∃ u : ByteArray, e = .returned (.string u) ∧ nb u = pub b (nb seed) (count b n) ∧ Below w.heap.size w w' := by
  have HSR := Lib.hid (fun w => refStart_ok b n hB hn hn2 seed hs w)
  have HEN := Lib.hid (fun g a2 c2 L2 vs hl h9 h32 w hI hS => refEnds_ok b n hB (List.replicate L2 0) (fun x hx => by rw [List.eq_of_mem_replicate hx]; exact Nat.zero_le _) (some ⟨g, 0, none⟩) L2 L2 (List.length_replicate ..) a2 c2 L2 vs hl (Nat.le_refl _) h9 h32 w hI hS (endsS b (List.replicate L2 0) (vs.map nb) L2) rfl)
  have HPU : Hid (∀ L, Sha.sum (endsS b (List.replicate L 0) (starts (nb seed) L) L) = pub b (nb seed) L) := Lib.hid (fun L => by rw [ends_zero b _ (zeros_get L), endsS_start])
  have hC := count_le hB hn2
  obtain ⟨C, hCe⟩ := ex_eq (count b n)
  rw [hCe] at hC ⊢
  have HCEQ := Lib.hid hCe
  clear hB hn hn2 hs hCe
  go_enter Tryd.func36, Tryd.ntmps36
  go_upto_region 1 with fail
  refine wp_over (fun W => Hid (W.heap[w.heap.size]? = some (.cells #[.int .i64 (b : Int), .int .i64 (n : Int)] 23 (0, 0))) ∧ Hid (Below w.heap.size w W) ∧ Hid (W.heap.size = w.heap.size + 1)) ⟨heap_alloc_new _ _, (Below.refl _ _).alloc (Nat.le_refl _) _, by show _ = _; simp⟩ ?_
  rintro W ⟨HG, HB, HWN⟩
  obtain ⟨N, hN⟩ := ex_eq w.heap.size
  rw [hN] at HG HB HWN ⊢
  have HN := Lib.hid hN
  clear hN
  have HCE : Hid (∀ V, Below (N + 1) W V → V.cell? ⟨N, 0, none⟩ = some (.int .i64 (b : Int)) ∧ V.cell? ⟨N, 1, none⟩ = some (.int .i64 (n : Int))) := Lib.hid (fun V h => by
    have hg := (h.block N (Nat.lt_succ_self _)).trans HG.out
    exact ⟨(cell_of_row _ _ _ _ _ _ hg).trans rfl, (cell_of_row _ _ _ _ _ _ hg).trans rfl⟩)
  have HST : Hid (∀ V V', Below (N + 1) W V → Below V.heap.size V V' → Below (N + 1) W V') := Lib.hid (fun V V' h h' => h.trans (h'.mono (by have := h.size; have := HWN.out; omega)))
  have HEND : Hid (∀ V, Below (N + 1) W V → Below w.heap.size w V) := Lib.hid (fun V h => by rw [HN.out]; exact HB.out.trans (h.mono (Nat.le_succ N)))
  obtain ⟨c0, c1⟩ := HCE.out W (Below.refl _ _)
  go_upto_region 2 with (first
    | (go_at_call 82
       (refine (HSR.out _).mono ?_)
       rintro e w2 ⟨x, L, vs, rfl, hL, hvs, ho2, h2⟩
       rw [HCEQ.out] at hL
       have hL2 := hL.symm
       subst hL2
       have H2 : Hid (Below (N + 1) W w2) := Lib.hid (HST.out _ _ (Below.refl _ _) h2)
       obtain ⟨a2, cp2, rfl, hl2, hc2, hS2, hnil2, hlt2⟩ := strs_of_own ho2
       have HVS := Lib.hid hvs
       have HL2 := Lib.hid hl2
       have HS2 := Lib.hid hS2
       clear h2 ho2 hL hvs hl2 hc2 hS2 hnil2 hlt2))
  have HV32 := Lib.hid (starts_size HVS.out)
  clear c0 c1
  obtain ⟨c0, c1⟩ := HCE.out w2 H2.out
  have hmk := mk_ints C (by omega)
  refine Kit.wp_region_gplan (fun V => V.cell? ⟨N, 0, none⟩ = some (.int .i64 (b : Int)) ∧ V.cell? ⟨N, 1, none⟩ = some (.int .i64 (n : Int))) [(true, 0), (true, 1), (true, 2), (true, 4), (false, 3), (false, 5), (false, 6), (false, 7), (true, 8)] (by kernel_rfl) (by kernel_rfl) (by kernel_rfl) (by kernel_rfl) ⟨c0, c1⟩ ?_
  iterate 4 (refine Kit.gplan_head (by rfl) (.inl ⟨by rfl, fun w' hS => by (dsimp only at hS); go_simp; (try with_reducible rfl)⟩) ?_; simp only [Act.put, List.setIfInBounds_toArray, List.set_cons_zero, List.set_cons_succ])
  clear c0 c1
  refine Kit.gplan_op (by rfl) (by rfl) fun K hK => ?_
  go_simp
  have H3 : Hid (Below (N + 1) W (w2.alloc (.cells (natV (List.replicate C 0)).toArray 3)).drew) := Lib.hid (H2.out.alloc (by have := H2.out.size; have := HWN.out; omega) _).drew
  have HI3 : Hid (IntsAt (w2.alloc (.cells (natV (List.replicate C 0)).toArray 3)).drew (some ⟨w2.heap.size, 0, none⟩) (List.replicate C 0)) := Lib.hid (ints_of_row (t := 3) (fr := (0, 0)) (heap_alloc_new w2 _))
  have HS3 : Hid (StrsAt (w2.alloc (.cells (natV (List.replicate C 0)).toArray 3)).drew a2 vs) := Lib.hid (HS2.out.later ((Below.refl _ w2).alloc (Nat.le_refl _) _).drew)
  refine hK _ _ (HCE.out _ H3.out) ?_
  clear hK K hmk
  obtain ⟨w3, hw3⟩ := ex_eq (w2.alloc (.cells (natV (List.replicate C 0)).toArray 3)).drew
  rw [hw3] at H3 HI3 HS3 ⊢
  clear hw3
  obtain ⟨g, hg⟩ := ex_eq w2.heap.size
  rw [hg] at HI3 ⊢
  clear hg
  refine Kit.gplan_op (by rfl) (by rfl) fun K hK => ?_
  go_simp
  go_at_call 83
  refine (HEN.out g a2 cp2 C vs HL2.out (by omega) HV32.out w3 HI3.out HS3.out).mono ?_
  rintro e w4 ⟨u4, rfl, hu4, h4⟩
  rw [HVS.out] at hu4
  have HU4 := Lib.hid hu4
  have H4 : Hid (Below (N + 1) W w4) := Lib.hid (HST.out _ _ H3.out h4)
  have hsz : u4.size ≤ 100000 := by
    rw [← nb_length, hu4, ← HVS.out, endsS_length _ _ _ _ (fun i hi => parts32 HV32.out i (by rw [HL2.out]; exact hi))]
    omega
  clear h4 hu4
  refine hK _ _ (HCE.out _ H4.out) ?_
  clear hK K
  obtain ⟨L4, hL4⟩ := ex_eq u4.size
  rw [hL4] at hsz
  obtain ⟨cp5, w5, hcv5, hle5, hB5, h5⟩ := str_at w4 u4 (by rw [hL4]; unfold maxLen; omega) hL4
  have HB5 := Lib.hid hB5
  have HL4 := Lib.hid hL4
  have H5 : Hid (Below (N + 1) W w5) := Lib.hid (HST.out _ _ H4.out h5)
  clear hB5 hL4 h5 hle5
  refine Kit.gplan_op (by rfl) (by rfl) fun K hK => ?_
  go_simp
  refine hK _ _ (HCE.out _ H5.out) ?_
  clear hK K hcv5
  refine Kit.gplan_op (by rfl) (by rfl) fun K hK => ?_
  go_simp
  go_at_call 78
  refine (refSum_l (some ⟨w4.heap.size, 0, none⟩) cp5 (nb u4) L4 (by rw [nb_length]; exact HL4.out) (fun e => by cases e) (by omega) w5 HB5.out).mono ?_
  rintro e w6 ⟨u6, rfl, hu6, h6⟩
  have HU6 : Hid (nb u6 = pub b (nb seed) C) := Lib.hid (by rw [hu6, HU4.out, HPU.out])
  have H6 : Hid (Below (N + 1) W w6) := Lib.hid (HST.out _ _ H5.out h6)
  clear h6 hu6
  refine hK _ _ (HCE.out _ H6.out) ?_
  clear hK K
  refine Kit.gplan_head (by rfl) (.inl ⟨by rfl, fun w' hS => by (dsimp only at hS); go_simp; (try with_reducible rfl)⟩) ?_
  refine Kit.gplan_done ?_
  (try simp only [Act.put, List.setIfInBounds_toArray, List.set_cons_zero, List.set_cons_succ])
  go_wp2_with fail
  go_ret
  exact ⟨u6, rfl, HU6.out, HEND.out _ H6.out⟩
end Go.Proofs.YtmnendoloankgaaDoor
