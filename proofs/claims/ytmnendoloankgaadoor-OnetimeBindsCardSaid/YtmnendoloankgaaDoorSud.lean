/- The helper summed: the strings whose sums are computed. -/
import Derived.Test.YtmnendoloankgaaDoorRfg
import Derived.Test.YtmnendoloankgaaDoorRfe
import Derived.Test.YtmnendoloankgaaDoorRff
import Derived.Test.YtmnendoloankgaaDoorSmd
namespace Go.Proofs.YtmnendoloankgaaDoor
set_option linter.unusedVariables false
set_option linter.unusedSimpArgs false
open Go.RowKit
open Kit (Chg)
open Sha (v)
open Go.Proofs.YtmnendoloankgaaDoor.One

theorem slice_to (s : ByteArray) (j : Nat) (h : j ≤ s.size) (W : World) : (Instr.slice 9 (.string s) none (some (.int .i64 (j : Int))) none).run Tryd.prog W = .ok (.string (s.extract 0 j)) W := by
  have hj : (0 : Int) ≤ (j : Int) ∧ (j : Int) ≤ (s.size : Int) := by omega
  simp [Instr.slice, Instr.sliceBounds, Instr.sliceBound, asIntOf, run_underlying Tryd.underlying9, hj]
  intro hc
  omega
theorem nb_take (s : ByteArray) (j : Nat) : nb (s.extract 0 j) = (nb s).take j := by
  unfold nb
  simp [ByteArray.data_extract, List.map_take]
theorem conv_new (W : World) (bs : List Nat) (hb : ∀ x ∈ bs, x < 256) (n : Nat) (hn : bs.length = n) (hl : n ≤ 100) (R : Array Value) (hR : (bvals bs).toArray = R) (cb : ByteArray) (hc : strB bs = cb) :
    (convert 68 9 (.slice (some ⟨W.heap.size, 0, none⟩) n n)).run Tryd.prog (W.alloc (.cells R 5)) = .ok (.string cb) (W.alloc (.cells R 5)) :=
  conv_l (row_bytes0 (t := 5) (heap_alloc_new W _) hR hb (by rw [hn]; unfold maxLen; omega)) hn n hc
theorem strB_one {x : Nat} (h : x < 256) : nb (strB [x]) = [x] ∧ (strB [x]).size = 1 := by
  have hb : ∀ y ∈ [x], y < 256 := fun y hy => by have := List.mem_singleton.1 hy; omega
  exact ⟨nb_strB hb, by rw [strB_size _ hb]; rfl⟩
theorem xor_lt256 {x c : Nat} (h : x < 256) (hc : c < 256) : x ^^^ c < 256 := Nat.xor_lt_two_pow (n := 8) h hc
theorem bits_or8 (x c : Nat) (hx : x < 256) (hc : c < 256) : bits .or .u8 (x : Int) (c : Int) = ((x ||| c : Nat) : Int) := by
  show IntKind.u8.wrap ((BitVec.ofInt 8 (x : Int) ||| BitVec.ofInt 8 (c : Int)).toNat : Int) = _
  rw [BitVec.toNat_or, ofInt8 x hx, ofInt8 c hc]
  have := Nat.or_lt_two_pow (n := 8) hx hc
  rw [IntKind.wrap_u8]; omega
section
variable {ops : Array Oper} {rest : List Oper} {o : Oper} {a : Act} {Q : Exit → Act → World → Prop}
/-- One string behind strings: only the row itself changes. -/
theorem app_strC {w0 : World} (hgd : o.guard = none) (s x : Operand) (ho : o.op = .call { callee := .builtin .append, args := #[s, x], argTypes := #[47, 47] })
    (base : Nat) (v : Value) (L : Nat) (cur : List ByteArray) (hs : a.eval s = v) (hown : w0.ownsRow base 9 1 v L (strV cur)) (hb : base ≤ w0.heap.size) (hL : L ≤ 1000000000000)
    (b : ByteArray) (c : Nat) (hx : a.eval x = .slice (some ⟨w0.heap.size, 0, none⟩) 1 c)
    (h : ∀ v' w', w'.ownsRow base 9 1 v' (L + 1) (strV (cur ++ [b])) → Below base w0 w' → Chg (fun q _ => some q = v.ownBlock) w0 w' → wpList Tryd.prog ops Q rest (a.put o.dst v') w') : wpList Tryd.prog ops Q (o :: rest) a (w0.alloc (.cells #[.string b] 9)) := by
  obtain ⟨i0, hi, hz0, hz1, hz2⟩ := info_parts Tryd.info9
  refine wpList_append_own _ hgd s x 47 ho base 9 i0 (.string ByteArray.empty) 1 16 Tryd.underlying47 hi hz0 hz1 hz2 rfl (by decide) v L (strV cur) hs (hown.alloc _) ⟨w0.heap.size, 0, none⟩ 1 c [.string b] hx rfl (cell_one_new _ _ _) (by simp [Value.oneCell']) (by unfold maxLen; omega) (by omega) (by simp; omega) ?_
  intro v' w4 hown4 hgr4 _
  refine h v' w4 (by rw [strV_app]; exact hown4) ?_ ?_
  · exact ((Chg.alloc1 w0 _).trans (Chg.of_grown hgr4 (fun q _ e => (hown.lt q e).1)) : Chg (fun q _ => base ≤ q) w0 w4).below hb (fun q i hq h => by omega)
  · exact (Chg.alloc1 w0 _).trans (Chg.of_grown hgr4 (fun q _ e => e.symm))
end
/-- Two strings behind strings, one operation alone. -/
theorem wp_app_str2 {o : Oper} {a : Act} {K : Act → World → Prop} {Q : Exit → Act → World → Prop} {w0 : World} (s x : Operand) (ho : o.op = .call { callee := .builtin .append, args := #[s, x], argTypes := #[47, 47] })
    (base : Nat) (v : Value) (L : Nat) (cur : List ByteArray) (hs : a.eval s = v) (hown : w0.ownsRow base 9 1 v L (strV cur)) (hb : base ≤ w0.heap.size) (hL : L ≤ 1000000000000)
    (b d : ByteArray) (c : Nat) (hx : a.eval x = .slice (some ⟨w0.heap.size, 0, none⟩) 2 c)
    (h : ∀ v' w', w'.ownsRow base 9 1 v' (L + 2) (strV (cur ++ [b, d])) → Below base w0 w' → K (a.put o.dst v') w') : o.wp Tryd.prog a (w0.alloc (.cells #[.string b, .string d] 9)) K Q := by
  obtain ⟨i0, hi, hz0, hz1, hz2⟩ := info_parts Tryd.info9
  refine wp_append_own _ s x 47 ho base 9 i0 (.string ByteArray.empty) 1 16 Tryd.underlying47 hi hz0 hz1 hz2 rfl (by decide) v L (strV cur) hs (hown.alloc _) ⟨w0.heap.size, 0, none⟩ 2 c [.string b, .string d] hx rfl (by intro j u hu; rw [add_none]; exact cells_new_at _ _ _ j u hu) (by simp [Value.oneCell']) (by unfold maxLen; omega) (by omega) (by simp; omega) ?_
  intro v' w4 hown4 hgr4 _
  refine h v' w4 (by rw [show cur ++ [b, d] = (cur ++ [b]) ++ [d] by simp, strV_app, strV_app, List.append_assoc]; exact hown4) ?_
  exact ((Chg.alloc1 w0 _).trans (Chg.of_grown hgr4 (fun q _ e => (hown.lt q e).1)) : Chg (fun q _ => base ≤ q) w0 w4).below hb (fun q i hq h => by omega)
/-- A slice of numbers stays while strings are put behind strings. -/
theorem ints_keep {w w' : World} {base L n : Nat} {vd vo : Value} {zs : List Nat} {cur : List ByteArray} (h : w.ownsRow base 3 1 vd n (natV zs)) (ho : w.ownsRow base 9 1 vo L (strV cur)) (hc : Chg (fun q _ => some q = vo.ownBlock) w w') : w'.ownsRow base 3 1 vd n (natV zs) :=
  ownsRow_keepM h hc (fun g hg i he => rows_apart h ho (by decide) hg he)
set_option maxRecDepth 100000 in
set_option maxHeartbeats 4000000 in
theorem summed_ok (b : Nat) (hB : Bits b) (seed dg : ByteArray) (hs : seed.size = 32) (hn : 0 < dg.size) (hn2 : dg.size ≤ 32) (a : Option Addr) (cap L : Nat) (ss : List ByteArray) (hLe : ss.length = L) (hLC : L = count b dg.size) (h32 : ∀ s ∈ ss, s.size = 32) (w : World) (hS : StrsAt w a ss) :
    Calls Tryd.prog 45 #[.agg #[.int .i64 (b : Int), .int .i64 (dg.size : Int)], .string seed, .string dg, .slice a L cap] w fun e w' => ∃ (x : Value) (L2 : Nat) (vs : List ByteArray), e = .returned x ∧ vs.map nb = One.summed b (nb seed) (One.digits b (nb dg)) (ss.map nb) ∧ vs.length = L2 ∧ w'.ownsRow w.heap.size 9 1 x L2 (strV vs) ∧ Below w.heap.size w w' := by
  have HSR := Lib.hid (fun w => refStart_ok b dg.size hB hn hn2 seed hs w)
  have HDG := Lib.hid (fun w => refDigits_any b dg hB hn hn2 w)
  have HDL : Hid ((One.digits b (nb dg)).length = count b dg.size) := Lib.hid (by rw [digits_length hB, nb_length])
  have HDA : Hid (∀ x ∈ One.digits b (nb dg), x ≤ last b) := Lib.hid (fun x hx => by
    have h1 := digits_lt b _ x hx
    unfold last
    omega)
  have HEN := Lib.hid (fun g a2 c2 L2 vs hl h9 h32 w hI hS => refEnds_ok b dg.size hB (List.replicate L2 0) (fun x hx => by rw [List.eq_of_mem_replicate hx]; exact Nat.zero_le _) (some ⟨g, 0, none⟩) L2 L2 (List.length_replicate ..) a2 c2 L2 vs hl (Nat.le_refl _) h9 h32 w hI hS (endsS b (List.replicate L2 0) (vs.map nb) L2) rfl)
  have hC := count_le hB hn2
  have HEP := Lib.hid (fun a1 c1 w hI hS => refEnds_ok b dg.size hB (One.digits b (nb dg)) HDA.out a1 c1 L (by rw [HDL.out]; exact hLC.symm) a cap L ss hLe (Nat.le_refl _) (by omega) h32 w hI hS (endsS b (One.digits b (nb dg)) (ss.map nb) L) rfl)
  have HBA : Hid (∀ w, Calls Tryd.prog 69 #[.agg #[.int .i64 (b : Int), .int .i64 (dg.size : Int)]] w fun e w' => e = .returned (.int .i64 ((last b : Int) + 1)) ∧ Below w.heap.size w w') := Lib.hid (fun w => by
    have h := base_any b dg.size hB w
    rw [pow_last b, Int.natCast_add] at h
    exact h)
  have hM := last_le hB
  have HLE := Lib.hid hLe
  have H32 := Lib.hid h32
  have HS := Lib.hid hS
  have HSN := Lib.hid hs
  have HKL : Hid ((key64 (nb seed)).length = 64) := Lib.hid (key64_length (by rw [nb_length]; omega))
  have HIN : Hid (∀ i, i < seed.size → (key64 (nb seed)).getD i 0 = (nb seed).getD i 0) := Lib.hid (fun i h => key64_in _ i (by rw [nb_length]; exact h))
  have HOUT : Hid (∀ i, ¬ i < seed.size → (key64 (nb seed)).getD i 0 = 0) := Lib.hid (fun i h => key64_out _ i (by rw [nb_length]; exact h))
  have HKB : Hid (∀ i, i < seed.size → (nb seed).getD i 0 < 256) := Lib.hid (fun i h => nb_lt seed _ (getD_mem _ _ _ (by rw [nb_length]; exact h)))
  have HIX := Lib.hid (fun i h => str_idx seed i h)
  have HX8 := Lib.hid (fun x c h hc => bits_xor8 x c h hc)
  have HINN : Hid (∀ i, inner (nb seed) (secretIn i) = xorL (key64 (nb seed)) 54 ++ (secretB ++ num i)) := Lib.hid (fun i => rfl)
  have HOTN : Hid (∀ i, outer (nb seed) (secretIn i) = xorL (key64 (nb seed)) 92 ++ Sha.sum (inner (nb seed) (secretIn i))) := Lib.hid (fun i => rfl)
  obtain ⟨K, hK⟩ := ex_eq (key64 (nb seed))
  rw [hK] at HKL HIN HOUT HINN HOTN
  have HXS := Lib.hid (fun c i h => xor_snoc K c i h)
  rw [← hLC] at HDL
  obtain ⟨DG, hDG⟩ := ex_eq (One.digits b (nb dg))
  rw [hDG] at HDG HDL HDA HEP ⊢
  rw [← hLC] at hC
  have HLC := Lib.hid hLC
  obtain ⟨Z, hZ⟩ := ex_eq (last b)
  rw [hZ] at HDA HBA hM
  have HZ := Lib.hid hZ
  clear hB hn hn2 hLC hLe h32 hS hK hDG hs hZ
  go_enter Tryd.func45, Tryd.ntmps45
  go_upto_region 1 with fail
  refine wp_over (fun W => Hid (W.heap[w.heap.size]? = some (.cells #[.int .i64 (b : Int), .int .i64 (dg.size : Int)] 23 (0, 0))) ∧ Hid (Below w.heap.size w W) ∧ Hid (W.heap.size = w.heap.size + 1)) ⟨heap_alloc_new _ _, (Below.refl _ _).alloc (Nat.le_refl _) _, by show _ = _; simp⟩ ?_
  rintro W ⟨HG, HB, HWN⟩
  obtain ⟨N, hN⟩ := ex_eq w.heap.size
  rw [hN] at HG HB HWN ⊢
  have HN := Lib.hid hN
  clear hN
  have HCE : Hid (∀ V, Below (N + 1) W V → V.cell? ⟨N, 0, none⟩ = some (.int .i64 (b : Int)) ∧ V.cell? ⟨N, 1, none⟩ = some (.int .i64 (dg.size : Int))) := Lib.hid (fun V h => by
    have hg := (h.block N (Nat.lt_succ_self _)).trans HG.out
    exact ⟨(cell_of_row _ _ _ _ _ _ hg).trans rfl, (cell_of_row _ _ _ _ _ _ hg).trans rfl⟩)
  have HEND : Hid (∀ V, Below (N + 1) W V → Below w.heap.size w V) := Lib.hid (fun V h => by rw [HN.out]; exact HB.out.trans (h.mono (Nat.le_succ N)))
  obtain ⟨c0, c1⟩ := HCE.out W (Below.refl _ _)
  go_upto_region 3 with (first
    | (go_at_call 82
       (refine (HSR.out _).mono ?_)
       rintro e w2 ⟨x, C0, vs0, rfl, hL0, hvs0, ho2, h2⟩
       rw [← HLC.out] at hL0
       have hL00 := hL0.symm
       subst hL00
       have H2 : Hid (Below (N + 1) W w2) := Lib.hid (h2.mono (by have := HWN.out; omega))
       obtain ⟨a2, cp2, rfl, hl2, hc2, hS2, hnil2, hlt2⟩ := strs_of_own ho2
       have HVS := Lib.hid hvs0
       have HL2 := Lib.hid hl2
       have HS2 := Lib.hid hS2
       clear h2 hL0 ho2 hvs0 hl2 hc2 hS2 hnil2 hlt2))
  clear c0 c1
  have HV32 := Lib.hid (starts_size HVS.out)
  obtain ⟨M, hM2⟩ := ex_eq w2.heap.size
  have HM := Lib.hid hM2
  have HNM : Hid (N + 1 ≤ M) := Lib.hid (by have := H2.out.size; have := HWN.out; omega)
  clear hM2
  have HCM : Hid (∀ V, Below M w2 V → V.cell? ⟨N, 0, none⟩ = some (.int .i64 (b : Int)) ∧ V.cell? ⟨N, 1, none⟩ = some (.int .i64 (dg.size : Int))) := Lib.hid (fun V h => HCE.out V (H2.out.trans (h.mono HNM.out)))
  have HST : Hid (∀ V V', Below M w2 V → Below V.heap.size V V' → Below M w2 V') := Lib.hid (fun V V' h h' => h.trans (h'.mono (by have := h.size; have := HM.out; omega)))
  go_upto_region 4 with fail
  go_loopw [9, 29] (fun x y wr => ∃ (i : Nat) (os : List ByteArray), i ≤ L ∧ y = .int .i64 (i : Int) ∧ os.length ≤ i * 300 ∧ Hid (os.map nb = (List.range i).flatMap (laysS b (nb seed))) ∧ Hid (wr.ownsRow M 9 1 x os.length (strV os)) ∧ Hid (Below M w2 wr)) (fun _ y _ => L - (intOf y).toNat)
  case atStart => exact ⟨0, [], by omega, rfl, by simp, rfl, own_nil, Below.refl _ _⟩
  case round =>
    obtain ⟨i, os, hi, rfl, hol, HOS, HOa, HBa⟩ := hrel
    obtain ⟨wa, hwa⟩ : ∃ wa, wa = wr := ⟨_, rfl⟩
    subst hwa
    obtain ⟨xo, hxo⟩ : ∃ t, t = u9 := ⟨_, rfl⟩
    subst hxo
    have HOwa := HOa
    have HBwa := HBa
    clear HOa HBa
    by_cases hlt : i < L
    · have hii : (i : Int) < (L : Int) := by omega
      obtain ⟨b2, o2, rfl, hcs⟩ : ∃ b o, a2 = some ⟨b, o, none⟩ ∧ ∀ j, j < vs0.length → w2.cell? ⟨b, o + j, none⟩ = some (.string (vs0.getD j ByteArray.empty)) := by
        rcases HS2.out with h | h
        · have := HL2.out; rw [h] at this; simp at this; omega
        · exact h
      have hc : wa.cell? ⟨b2, o2 + i, none⟩ = some (.string (vs0.getD i ByteArray.empty)) := by
        have hc := hcs i (by rw [HL2.out]; exact hlt)
        exact (HBwa.out.cell (p := ⟨b2, o2 + i, none⟩) (by rw [← HM.out]; exact World.block_lt_of_cell? w2 _ hc)).trans hc
      have hx32 : (vs0.getD i ByteArray.empty).size = 32 := HV32.out _ (getD_mem _ _ _ (by rw [HL2.out]; exact hlt))
      have HXV : Hid (nb (vs0.getD i ByteArray.empty) = secret (nb seed) i) := Lib.hid (by
        rw [← getD_map vs0 i (by rw [HL2.out]; exact hlt), HVS.out, starts_getD _ _ _ hlt])
      obtain ⟨x, hx⟩ := ex_eq (vs0.getD i ByteArray.empty)
      rw [hx] at hc hx32 HXV
      clear hx hcs
      go_upto_region 8 with fail
      go_loopw [13, 14] (fun x y wr => ∃ (k : Nat) (u : ByteArray), k ≤ 64 ∧ y = .int .i64 (k : Int) ∧ x = .string u ∧ u.size = k ∧ Hid (nb u = (xorL K 92).take k) ∧ Hid (Below wa.heap.size wa wr)) (fun _ y _ => 64 - (intOf y).toNat)
      case atStart => exact ⟨0, _, by omega, rfl, rfl, rfl, rfl, Below.refl _ _⟩
      case round =>
        obtain ⟨k, u, hk, rfl, rfl, hus, HU, HB2⟩ := hrel
        by_cases hk64 : k < 64
        · have hki : (k : Int) < 64 := by omega
          have HXK := Lib.hid (HXS.out 92 k (by rw [HKL.out]; exact hk64))
          have HUZ := Lib.hid hus
          have hcat : ¬ 9223372036854775807 < u.size + 1 := by omega
          clear hus
          by_cases hks : k < seed.size
          · have hksi : (k : Int) < ((seed.size : Nat) : Int) := by omega
            have hix := HIX.out k hks
            have hlx := HKB.out k hks
            have hx8 := HX8.out ((nb seed).getD k 0) 92 hlx (by decide)
            rw [HIN.out k hks] at HXK
            obtain ⟨X, hX⟩ := ex_eq ((nb seed).getD k 0)
            rw [hX] at hix hx8 HXK hlx
            have HB8 := Lib.hid (xor_lt256 (c := 92) hlx (by decide))
            clear hX hlx
            obtain ⟨Y, hY⟩ := ex_eq (X ^^^ 92)
            rw [hY] at hx8 HXK HB8
            have hx9 : bits .xor .u8 (X : Int) 92 = (Y : Int) := hx8
            clear hY hx8
            obtain ⟨cb, hcb⟩ := ex_eq (strB [Y])
            have hcv := conv_new wr [Y] (fun y hy => by have := List.mem_singleton.1 hy; have := HB8.out; omega) 1 rfl (by omega) #[.int .u8 (Y : Int)] rfl cb hcb
            have hcs : cb.size = 1 := by rw [← hcb]; exact (strB_one HB8.out).2
            have HCB : Hid (nb cb = [Y]) := Lib.hid (by rw [← hcb]; exact (strB_one HB8.out).1)
            clear hcb
            go_wp2_with fail
            go_roundw
            case rel => exact ⟨k + 1, _, by omega, by go_num, rfl, by rw [ByteArray.size_append, hcs, HUZ.out], by show _ = _; rw [nb_app, HU.out, HCB.out, HXK.out], HB2.out.alloc HB2.out.size _⟩
            case measure => simp [intOf]; omega
          · have hksi : ¬ (k : Int) < ((seed.size : Nat) : Int) := by omega
            rw [HOUT.out k hks, Nat.zero_xor] at HXK
            have hx8 := HX8.out 0 92 (by decide) (by decide)
            rw [Nat.zero_xor] at hx8
            have hx9 : bits .xor .u8 0 92 = 92 := hx8
            clear hx8
            obtain ⟨cb, hcb⟩ := ex_eq (strB [92])
            have hcv := conv_new wr [92] (fun y hy => by have := List.mem_singleton.1 hy; omega) 1 rfl (by omega) #[.int .u8 92] rfl cb hcb
            have hcs : cb.size = 1 := by rw [← hcb]; exact (strB_one (by decide)).2
            have HCB : Hid (nb cb = [92]) := Lib.hid (by rw [← hcb]; exact (strB_one (by decide)).1)
            clear hcb
            go_wp2_with fail
            go_roundw
            case rel => exact ⟨k + 1, _, by omega, by go_num, rfl, by rw [ByteArray.size_append, hcs, HUZ.out], by show _ = _; rw [nb_app, HU.out, HCB.out, HXK.out], HB2.out.alloc HB2.out.size _⟩
            case measure => simp [intOf]; omega
        · have hki : ¬ (k : Int) < 64 := by omega
          have hk6 : k = 64 := by omega
          subst hk6
          have HFU : Hid (nb u = xorL K 92) := Lib.hid (by rw [HU.out]; exact List.take_of_length_le (by rw [xorL_length, HKL.out]; exact Nat.le_refl _))
          obtain ⟨up, hup⟩ : ∃ t, t = u := ⟨_, rfl⟩
          subst hup
          have hzp := hus
          clear hus hk hk64 hki HU
          obtain ⟨wp, hwp⟩ : ∃ t, t = wr := ⟨_, rfl⟩
          subst hwp
          have HBwp : Hid (Below M w2 wp) := Lib.hid (HBwa.out.trans (HB2.out.mono (by have := HBwa.out.size; have := HM.out; omega)))
          have HOwp := Lib.hid (own_later HOwa.out HB2.out)
          have HFp := HFU
          clear HB2 HFU
          go_upto_region 16 with fail
          go_loopw [16, 17] (fun x y wr => ∃ (k : Nat) (u : ByteArray), k ≤ 64 ∧ y = .int .i64 (k : Int) ∧ x = .string u ∧ u.size = k ∧ Hid (nb u = (xorL K 54).take k) ∧ Hid (Below wp.heap.size wp wr)) (fun _ y _ => 64 - (intOf y).toNat)
          case atStart => exact ⟨0, _, by omega, rfl, rfl, rfl, rfl, Below.refl _ _⟩
          case round =>
            obtain ⟨k, u, hk, rfl, rfl, hus, HU, HB2⟩ := hrel
            by_cases hk64 : k < 64
            · have hki : (k : Int) < 64 := by omega
              have HXK := Lib.hid (HXS.out 54 k (by rw [HKL.out]; exact hk64))
              have HUZ := Lib.hid hus
              have hcat : ¬ 9223372036854775807 < u.size + 1 := by omega
              clear hus
              by_cases hks : k < seed.size
              · have hksi : (k : Int) < ((seed.size : Nat) : Int) := by omega
                have hix := HIX.out k hks
                have hlx := HKB.out k hks
                have hx8 := HX8.out ((nb seed).getD k 0) 54 hlx (by decide)
                rw [HIN.out k hks] at HXK
                obtain ⟨X, hX⟩ := ex_eq ((nb seed).getD k 0)
                rw [hX] at hix hx8 HXK hlx
                have HB8 := Lib.hid (xor_lt256 (c := 54) hlx (by decide))
                clear hX hlx
                obtain ⟨Y, hY⟩ := ex_eq (X ^^^ 54)
                rw [hY] at hx8 HXK HB8
                have hx9 : bits .xor .u8 (X : Int) 54 = (Y : Int) := hx8
                clear hY hx8
                obtain ⟨cb, hcb⟩ := ex_eq (strB [Y])
                have hcv := conv_new wr [Y] (fun y hy => by have := List.mem_singleton.1 hy; have := HB8.out; omega) 1 rfl (by omega) #[.int .u8 (Y : Int)] rfl cb hcb
                have hcs : cb.size = 1 := by rw [← hcb]; exact (strB_one HB8.out).2
                have HCB : Hid (nb cb = [Y]) := Lib.hid (by rw [← hcb]; exact (strB_one HB8.out).1)
                clear hcb
                go_wp2_with fail
                go_roundw
                case rel => exact ⟨k + 1, _, by omega, by go_num, rfl, by rw [ByteArray.size_append, hcs, HUZ.out], by show _ = _; rw [nb_app, HU.out, HCB.out, HXK.out], HB2.out.alloc HB2.out.size _⟩
                case measure => simp [intOf]; omega
              · have hksi : ¬ (k : Int) < ((seed.size : Nat) : Int) := by omega
                rw [HOUT.out k hks, Nat.zero_xor] at HXK
                have hx8 := HX8.out 0 54 (by decide) (by decide)
                rw [Nat.zero_xor] at hx8
                have hx9 : bits .xor .u8 0 54 = 54 := hx8
                clear hx8
                obtain ⟨cb, hcb⟩ := ex_eq (strB [54])
                have hcv := conv_new wr [54] (fun y hy => by have := List.mem_singleton.1 hy; omega) 1 rfl (by omega) #[.int .u8 54] rfl cb hcb
                have hcs : cb.size = 1 := by rw [← hcb]; exact (strB_one (by decide)).2
                have HCB : Hid (nb cb = [54]) := Lib.hid (by rw [← hcb]; exact (strB_one (by decide)).1)
                clear hcb
                go_wp2_with fail
                go_roundw
                case rel => exact ⟨k + 1, _, by omega, by go_num, rfl, by rw [ByteArray.size_append, hcs, HUZ.out], by show _ = _; rw [nb_app, HU.out, HCB.out, HXK.out], HB2.out.alloc HB2.out.size _⟩
                case measure => simp [intOf]; omega
            · have hki : ¬ (k : Int) < 64 := by omega
              have hk6 : k = 64 := by omega
              subst hk6
              have HFU : Hid (nb u = xorL K 54) := Lib.hid (by rw [HU.out]; exact List.take_of_length_le (by rw [xorL_length, HKL.out]; exact Nat.le_refl _))
              obtain ⟨uq, huq⟩ : ∃ t, t = u := ⟨_, rfl⟩
              subst huq
              have hzq := hus
              clear hus hk hk64 hki HU
              obtain ⟨wq, hwq⟩ : ∃ t, t = wr := ⟨_, rfl⟩
              subst hwq
              have HBwq : Hid (Below M w2 wq) := Lib.hid (HBwp.out.trans (HB2.out.mono (by have := HBwp.out.size; have := HM.out; omega)))
              have HOwq := Lib.hid (own_later HOwp.out HB2.out)
              have HFq := HFU
              clear HB2 HFU
              go_upto_region 22 with fail
              obtain ⟨Y8, hY8⟩ := ex_eq (i % 256)
              have hw8 : IntKind.u8.wrap (i : Int) = (Y8 : Int) := by rw [IntKind.wrap_u8]; omega
              have HY8 := Lib.hid hY8
              have HY9 : Hid (Y8 < 256) := Lib.hid (by omega)
              clear hY8
              obtain ⟨s4, hs4⟩ := ex_eq (uq ++ { data := #[115, 101, 99, 114, 101, 116] })
              have HS4 : Hid (nb s4 = xorL K 54 ++ secretB) := Lib.hid (by rw [← hs4, nb_app, HFq.out]; rfl)
              have hz4 : s4.size = 70 := by rw [← hs4, ByteArray.size_append, hzq]; rfl
              obtain ⟨cb, hcb⟩ := ex_eq (strB [Y8])
              have hcv := conv_new wq [Y8] (fun y hy => by have := List.mem_singleton.1 hy; have := HY9.out; omega) 1 rfl (by omega) #[.int .u8 (Y8 : Int)] rfl cb hcb
              have hcs : cb.size = 1 := by rw [← hcb]; exact (strB_one HY9.out).2
              have HCB : Hid (nb cb = [Y8]) := Lib.hid (by rw [← hcb]; exact (strB_one HY9.out).1)
              clear hcb
              obtain ⟨s5, hs5⟩ := ex_eq (s4 ++ cb)
              have HS5 : Hid (nb s5 = xorL K 54 ++ secretB ++ [Y8]) := Lib.hid (by rw [← hs5, nb_app, HS4.out, HCB.out])
              have hz5 : s5.size = 71 := by rw [← hs5, ByteArray.size_append, hz4, hcs]
              go_upto_region 23 with fail
              clear hcv hs4 hs5 hcs hz4
              have HB22 : Hid (Below M w2 (wq.alloc (.cells #[.int .u8 (Y8 : Int)] 5))) := Lib.hid (HBwq.out.alloc (by have := HBwq.out.size; have := HM.out; omega) _)
              have HO22 : Hid ((wq.alloc (.cells #[.int .u8 (Y8 : Int)] 5)).ownsRow M 9 1 xo os.length (strV os)) := Lib.hid (own_later HOwq.out ((Below.refl _ _).alloc (Nat.le_refl _) _))
              obtain ⟨wS, hwS⟩ := ex_eq (wq.alloc (.cells #[.int .u8 (Y8 : Int)] 5))
              rw [hwS] at HB22 HO22 ⊢
              clear hwS
              by_cases h128 : i < 128
              · have h128i : ¬ (128 : Int) ≤ (i : Int) := by omega
                have HSI : Hid (nb s5 = inner (nb seed) (secretIn i)) := Lib.hid (by
                  rw [HINN.out, HS5.out, num_small h128, List.append_assoc, ← HY8.out, Nat.mod_eq_of_lt (by omega)])
                obtain ⟨si, hsi⟩ : ∃ t, t = s5 := ⟨_, rfl⟩
                subst hsi
                have hzs : si.size ≤ 72 := by omega
                have HBS := HB22
                have HOS2 := HO22
                clear hz5 HB22 HO22
                go_upto_region 25 with fail
                obtain ⟨LI, hLI⟩ := ex_eq si.size
                have hLI2 : LI ≤ 72 := by omega
                have HLI := Lib.hid hLI
                obtain ⟨cp3, w3, hcv3, hle3, hB3, h3⟩ := str_at wS si (by rw [hLI]; unfold maxLen; omega) hLI
                have HB3 := Lib.hid hB3
                have HBE3 : Hid (Below M w2 w3) := Lib.hid (HST.out _ _ HBS.out h3)
                have HO3 := Lib.hid (own_later HOS2.out h3)
                clear hle3 hB3 h3 hLI hzs
                go_upto_region 26 with (first
                  | (go_at_call 78
                     (refine (refSum_l (some ⟨wS.heap.size, 0, none⟩) cp3 (nb si) LI (by rw [nb_length]; exact HLI.out) (fun e => by cases e) (by omega) w3 HB3.out).mono ?_)
                     rintro e w4 ⟨u4, rfl, hu4, h4⟩
                     have hz32 : u4.size = 32 := by rw [← nb_length, hu4]; exact Sha.sum_length _
                     obtain ⟨so, hso⟩ := ex_eq (up ++ u4)
                     have HSO : Hid (nb so = outer (nb seed) (secretIn i)) := Lib.hid (by rw [← hso, nb_app, HFp.out, hu4, HSI.out, HOTN.out])
                     have HBE4 : Hid (Below M w2 w4) := Lib.hid (HST.out _ _ HBE3.out h4)
                     have HO4 := Lib.hid (own_later HO3.out h4)
                     have HW4 : Hid (M ≤ w4.heap.size) := Lib.hid (by have := HBE4.out.size; have := HM.out; omega)
                     clear hu4 h4)
                  | (at_builtin
                     refine app_str2 rfl _ _ rfl M _ os.length os (by rfl) HO4.out HW4.out (by omega) si so 2 (by rfl) ?_
                     intro v5 w5 ho5 hb5
                     have HO5 := Lib.hid ho5
                     have HB5 : Hid (Below M w2 w5) := Lib.hid (HBE4.out.trans hb5)
                     clear ho5 hb5))
                clear hso hz32 hLI2 hcv3
                obtain ⟨OS, hOS⟩ := ex_eq (os ++ [si, so])
                rw [hOS] at HO5
                have HOSE := Lib.hid hOS.symm
                clear hOS
                obtain ⟨OL, hOL⟩ := ex_eq (os.length + 2)
                rw [hOL] at HO5
                have HOL := Lib.hid hOL
                have hOL3 : OL ≤ i * 300 + 2 := by omega
                clear hOL
                go_upto_region 27 with fail
                go_loopw [9, 12, 19] (fun xo2 x2 yj wr => ∃ (j : Nat) (ls : List ByteArray) (y : ByteArray), j ≤ Z ∧ yj = .int .i64 (j : Int) ∧ x2 = .string y ∧ y.size = 32 ∧ ls.length = j ∧ Hid (nb y = chain i 0 j (secret (nb seed) i)) ∧ Hid (ls.map nb = links i 0 j (secret (nb seed) i)) ∧ Hid (wr.ownsRow M 9 1 xo2 (OL + j) (strV (OS ++ ls))) ∧ Hid (Below M w2 wr)) (fun _ _ yj _ => Z - (intOf yj).toNat)
                case atStart => exact ⟨0, [], x, by omega, rfl, rfl, hx32, rfl, HXV.out, rfl, by rw [List.append_nil]; exact HO5.out, HB5.out⟩
                case round =>
                  obtain ⟨j, ls, y, hj, rfl, rfl, hy32, hll, HY, HLS, HOl, HBl⟩ := hrel
                  have HLL := Lib.hid hll
                  clear hll
                  obtain ⟨c0, c1⟩ := HCM.out wr HBl.out
                  have hwZ : IntKind.i64.wrap ((Z : Int) + 1 - 1) = (Z : Int) := by rw [IntKind.wrap_i64]; omega
                  have hwZ2 : IntKind.i64.wrap (Z : Int) = (Z : Int) := by rw [IntKind.wrap_i64]; omega
                  by_cases hjZ : j < Z
                  · have hji : (j : Int) < (Z : Int) := by omega
                    have HY32 := Lib.hid hy32
                    go_upto_region 29 with (first
                      | (go_at_call 69
                         (refine (HBA.out _).mono ?_)
                         rintro e w6 ⟨rfl, h6⟩
                         have HB6 := Lib.hid (HST.out _ _ HBl.out h6)
                         have HO6 := Lib.hid (own_later HOl.out h6)
                         clear h6 c0 c1))
                    have HIN1 := Lib.hid (fun w => refInput_ok i (by omega) j (by omega) y (by omega) w (input i j (nb y)) rfl)
                    have HCH1 : Hid (∀ w, Calls Tryd.prog 32 #[.int .i64 (i : Int), .int .i64 (j : Int), .int .i64 ((j : Int) + 1), .string y] w fun e w' => ∃ u : ByteArray, e = .returned (.string u) ∧ nb u = chain i j 1 (nb y) ∧ Below w.heap.size w w') := Lib.hid (fun w => by
                      have h := refChain_ok i j (j + 1) (by omega) (by omega) (by omega) y (by omega) w (chain i j 1 (nb y)) (by rw [Nat.add_sub_cancel_left])
                      rw [Int.natCast_add] at h
                      exact h)
                    go_upto_region 30 with (first
                      | (go_at_call 79
                         (refine (HIN1.out _).mono ?_)
                         rintro e w7 ⟨u7, rfl, hu7, h7⟩
                         have HU7 := Lib.hid hu7
                         have HB7 := Lib.hid (HST.out _ _ HB6.out h7)
                         have HO7 := Lib.hid (own_later HO6.out h7)
                         have HW7 : Hid (M ≤ w7.heap.size) := Lib.hid (by have := HB7.out.size; have := HM.out; omega)
                         clear hu7 h7)
                      | (at_builtin
                         refine app_str rfl _ _ rfl M _ (OL + j) (OS ++ ls) (by rfl) HO7.out HW7.out (by omega) u7 1 (by rfl) ?_
                         intro v8 w8 ho8 hb8
                         have HO8 := Lib.hid ho8
                         have HB8 : Hid (Below M w2 w8) := Lib.hid (HB7.out.trans hb8)
                         clear ho8 hb8))
                    go_upto_region 28 with (first
                      | (go_at_call 32
                         (refine (HCH1.out _).mono ?_)
                         rintro e w9 ⟨y9, rfl, hy9, h9⟩
                         have HY9' := Lib.hid hy9
                         have HB9 := Lib.hid (HST.out _ _ HB8.out h9)
                         have HO9 := Lib.hid (own_later HO8.out h9)
                         clear hy9 h9))
                    go_wp2_with fail
                    go_roundw
                    case rel =>
                      refine ⟨j + 1, ls ++ [u7], y9, hjZ, by go_num, rfl, ?_, by rw [List.length_append, HLL.out]; rfl, ?_, ?_, ?_, HB9.out⟩
                      · rw [← nb_length, HY9'.out, chain_length _ _ _ _ (by rw [nb_length]; exact HY32.out)]
                      · show _ = _
                        rw [HY9'.out, HY.out]
                        have h := chain_add i j 0 1 (secret (nb seed) i)
                        rw [Nat.zero_add] at h
                        exact h.symm
                      · show _ = _
                        rw [List.map_append, HLS.out, links_succ, Nat.zero_add, ← HY.out, ← HU7.out]
                        rfl
                      · show World.ownsRow _ _ _ _ _ _ _
                        rw [← List.append_assoc, ← Nat.add_assoc]
                        exact HO9.out
                    case measure => simp [intOf]; omega
                  · have hji : ¬ (j : Int) < (Z : Int) := by omega
                    have hjz : j = Z := by omega
                    have HJZ := Lib.hid hjz
                    clear hjz
                    go_wp2_with (first
                      | (go_at_call 69
                         (refine (HBA.out _).mono ?_)
                         rintro e w6 ⟨rfl, h6⟩
                         have HB6 := Lib.hid (HST.out _ _ HBl.out h6)
                         have HO6 := Lib.hid (own_later HOl.out h6)
                         clear h6 c0 c1))
                    have HLN : Hid ((OS ++ ls).length = OL + j) := Lib.hid (by rw [List.length_append, HOSE.out, List.length_append, HLL.out, ← HOL.out]; rfl)
                    go_roundw
                    case rel =>
                      refine ⟨i + 1, OS ++ ls, hlt, by go_num, by rw [HLN.out]; omega, ?_, by rw [HLN.out]; exact HO6.out, HB6.out⟩
                      show _ = _
                      rw [range_flat, List.map_append, HOSE.out, List.map_append, HOS.out, HLS.out, List.append_assoc]
                      congr 1
                      show [nb si, nb so] ++ links i 0 j (secret (nb seed) i) = laysS b (nb seed) i
                      unfold laysS
                      rw [HZ.out, HJZ.out, HSI.out, HSO.out]
                      rfl
                    case measure => simp [intOf]; omega
              · have h128i : (128 : Int) ≤ (i : Int) := by omega
                obtain ⟨Q2, hQ2⟩ := ex_eq (i / 128)
                have hquo : (i : Int).tdiv 128 = (Q2 : Int) := by rw [Int.tdiv_eq_ediv_of_nonneg (by omega)]; omega
                have hQ3 : Q2 < 256 := by omega
                have hwq1 : IntKind.i64.wrap (Q2 : Int) = (Q2 : Int) := by rw [IntKind.wrap_i64]; omega
                have hwq2 : IntKind.u8.wrap (Q2 : Int) = (Q2 : Int) := by rw [IntKind.wrap_u8]; omega
                have HQ2 := Lib.hid hQ2
                clear hQ2
                obtain ⟨Y1, hY1⟩ := ex_eq (i % 128 + 128)
                have hY2 : Y1 < 256 := by omega
                have hor0 := bits_or8 Y8 128 HY9.out (by decide)
                rw [← HY8.out, byte_or i, hY1] at hor0
                have hor : bits .or .u8 (Y8 : Int) 128 = (Y1 : Int) := by rw [← HY8.out]; exact hor0
                have HY1 := Lib.hid hY1
                clear hY1 hor0
                obtain ⟨s6, hs6⟩ := ex_eq (s5.extract 0 70)
                have hsl : ∀ W, (Instr.slice 9 (.string s5) none (some (.int .i64 70)) none).run Tryd.prog W = .ok (.string s6) W := fun W => by
                  rw [← hs6]
                  exact slice_to s5 70 (by omega) W
                have HS6 : Hid (nb s6 = xorL K 54 ++ secretB) := Lib.hid (by
                  rw [← hs6, nb_take, HS5.out]
                  refine List.take_left' ?_
                  rw [List.length_append, xorL_length, HKL.out]; rfl)
                have hz6 : s6.size = 70 := by
                  rw [← nb_length, HS6.out, List.length_append, xorL_length, HKL.out]; rfl
                obtain ⟨cc, hcc⟩ := ex_eq (strB [Y1, Q2])
                have hb2 : ∀ y ∈ [Y1, Q2], y < 256 := fun y hy => by
                  rcases List.mem_cons.1 hy with e | hy
                  · omega
                  · have := List.mem_singleton.1 hy; omega
                have hzc : cc.size = 2 := by rw [← hcc, strB_size _ hb2]; rfl
                have HCC : Hid (nb cc = [Y1, Q2]) := Lib.hid (by rw [← hcc]; exact nb_strB hb2)
                have HB2' := Lib.hid hb2
                have HCS := Lib.hid hcc
                clear hb2 hs6 hcc
                obtain ⟨si, hsi⟩ := ex_eq (s6 ++ cc)
                have HSI : Hid (nb si = inner (nb seed) (secretIn i)) := Lib.hid (by
                  rw [HINN.out, ← hsi, nb_app, HS6.out, HCC.out, num_two (by omega) (by omega), List.append_assoc, HY1.out, HQ2.out])
                have hzs : si.size ≤ 72 := by rw [← hsi, ByteArray.size_append, hz6, hzc]; exact Nat.le_refl _
                have hw70 : IntKind.i64.wrap 70 = 70 := by decide
                go_upto_region 24 with fail
                refine Kit.wp_region_splan (fun V => True) [(true, 0), (true, 1), (true, 2), (true, 3), (true, 4), (true, 5), (true, 6), (true, 7), (true, 8), (true, 9), (true, 10), (false, 11), (true, 12), (true, 13), (true, 14)] (by kernel_rfl) (by kernel_rfl) (by kernel_rfl) (by kernel_rfl) trivial ?_
                iterate 11 (refine Kit.splan_head (by rfl) (.inl ⟨by rfl, fun w' hS => by (dsimp only at hS); go_simp; (try with_reducible rfl)⟩) ?_; simp only [Act.put, List.setIfInBounds_toArray, List.set_cons_zero, List.set_cons_succ])
                refine Kit.splan_op (by rfl) (by rfl) fun K hK => ?_
                go_simp
                have HB24 : Hid (Below M w2 (wS.alloc (.cells #[.int .u8 (Y1 : Int), .int .u8 (Q2 : Int)] 5)).drew) := Lib.hid (HB22.out.alloc (by have := HB22.out.size; have := HM.out; omega) _).drew
                have HO24 : Hid ((wS.alloc (.cells #[.int .u8 (Y1 : Int), .int .u8 (Q2 : Int)] 5)).drew.ownsRow M 9 1 xo os.length (strV os)) := Lib.hid (own_later HO22.out ((Below.refl _ _).alloc (Nat.le_refl _) _).drew)
                refine hK (fun V => BytesAt V (some ⟨wS.heap.size, 0, none⟩) [Y1, Q2]) (fun V _ => trivial) _ _ (row_bytes0 (t := 5) (heap_alloc_new wS _) rfl HB2'.out (by show 2 ≤ maxLen; unfold maxLen; omega)) ?_
                clear hK K
                refine Kit.splan_head (by rfl) (.inl ⟨by rfl, fun w' hS => by (dsimp only at hS); have hc := conv_l hS (n := 2) rfl 2 HCS.out; go_simp; (try with_reducible rfl)⟩) ?_
                simp only [Act.put, List.setIfInBounds_toArray, List.set_cons_zero, List.set_cons_succ]
                iterate 2 (refine Kit.splan_head (by rfl) (.inl ⟨by rfl, fun w' hS => by (dsimp only at hS); go_simp; (try with_reducible rfl)⟩) ?_; simp only [Act.put, List.setIfInBounds_toArray, List.set_cons_zero, List.set_cons_succ])
                refine Kit.splan_done ?_
                (try simp only [Act.put, List.setIfInBounds_toArray, List.set_cons_zero, List.set_cons_succ])
                obtain ⟨wT, hwT⟩ := ex_eq (wS.alloc (.cells #[.int .u8 (Y1 : Int), .int .u8 (Q2 : Int)] 5)).drew
                rw [hwT] at HB24 HO24 ⊢
                clear hwT hsl hor hquo hwq1 hwq2 hz6 hzc HB22 HO22 hz5
                obtain ⟨wS, hwS⟩ : ∃ t, t = wT := ⟨_, rfl⟩
                subst hwS
                have HBS := HB24
                have HOS2 := HO24
                go_upto_region 25 with fail
                obtain ⟨LI, hLI⟩ := ex_eq si.size
                have hLI2 : LI ≤ 72 := by omega
                have HLI := Lib.hid hLI
                obtain ⟨cp3, w3, hcv3, hle3, hB3, h3⟩ := str_at wS si (by rw [hLI]; unfold maxLen; omega) hLI
                have HB3 := Lib.hid hB3
                have HBE3 : Hid (Below M w2 w3) := Lib.hid (HST.out _ _ HBS.out h3)
                have HO3 := Lib.hid (own_later HOS2.out h3)
                clear hle3 hB3 h3 hLI hzs
                go_upto_region 26 with (first
                  | (go_at_call 78
                     (refine (refSum_l (some ⟨wS.heap.size, 0, none⟩) cp3 (nb si) LI (by rw [nb_length]; exact HLI.out) (fun e => by cases e) (by omega) w3 HB3.out).mono ?_)
                     rintro e w4 ⟨u4, rfl, hu4, h4⟩
                     have hz32 : u4.size = 32 := by rw [← nb_length, hu4]; exact Sha.sum_length _
                     obtain ⟨so, hso⟩ := ex_eq (up ++ u4)
                     have HSO : Hid (nb so = outer (nb seed) (secretIn i)) := Lib.hid (by rw [← hso, nb_app, HFp.out, hu4, HSI.out, HOTN.out])
                     have HBE4 : Hid (Below M w2 w4) := Lib.hid (HST.out _ _ HBE3.out h4)
                     have HO4 := Lib.hid (own_later HO3.out h4)
                     have HW4 : Hid (M ≤ w4.heap.size) := Lib.hid (by have := HBE4.out.size; have := HM.out; omega)
                     clear hu4 h4)
                  | (at_builtin
                     refine app_str2 rfl _ _ rfl M _ os.length os (by rfl) HO4.out HW4.out (by omega) si so 2 (by rfl) ?_
                     intro v5 w5 ho5 hb5
                     have HO5 := Lib.hid ho5
                     have HB5 : Hid (Below M w2 w5) := Lib.hid (HBE4.out.trans hb5)
                     clear ho5 hb5))
                clear hso hz32 hLI2 hcv3
                obtain ⟨OS, hOS⟩ := ex_eq (os ++ [si, so])
                rw [hOS] at HO5
                have HOSE := Lib.hid hOS.symm
                clear hOS
                obtain ⟨OL, hOL⟩ := ex_eq (os.length + 2)
                rw [hOL] at HO5
                have HOL := Lib.hid hOL
                have hOL3 : OL ≤ i * 300 + 2 := by omega
                clear hOL
                go_upto_region 27 with fail
                go_loopw [9, 12, 19] (fun xo2 x2 yj wr => ∃ (j : Nat) (ls : List ByteArray) (y : ByteArray), j ≤ Z ∧ yj = .int .i64 (j : Int) ∧ x2 = .string y ∧ y.size = 32 ∧ ls.length = j ∧ Hid (nb y = chain i 0 j (secret (nb seed) i)) ∧ Hid (ls.map nb = links i 0 j (secret (nb seed) i)) ∧ Hid (wr.ownsRow M 9 1 xo2 (OL + j) (strV (OS ++ ls))) ∧ Hid (Below M w2 wr)) (fun _ _ yj _ => Z - (intOf yj).toNat)
                case atStart => exact ⟨0, [], x, by omega, rfl, rfl, hx32, rfl, HXV.out, rfl, by rw [List.append_nil]; exact HO5.out, HB5.out⟩
                case round =>
                  obtain ⟨j, ls, y, hj, rfl, rfl, hy32, hll, HY, HLS, HOl, HBl⟩ := hrel
                  have HLL := Lib.hid hll
                  clear hll
                  obtain ⟨c0, c1⟩ := HCM.out wr HBl.out
                  have hwZ : IntKind.i64.wrap ((Z : Int) + 1 - 1) = (Z : Int) := by rw [IntKind.wrap_i64]; omega
                  have hwZ2 : IntKind.i64.wrap (Z : Int) = (Z : Int) := by rw [IntKind.wrap_i64]; omega
                  by_cases hjZ : j < Z
                  · have hji : (j : Int) < (Z : Int) := by omega
                    have HY32 := Lib.hid hy32
                    go_upto_region 29 with (first
                      | (go_at_call 69
                         (refine (HBA.out _).mono ?_)
                         rintro e w6 ⟨rfl, h6⟩
                         have HB6 := Lib.hid (HST.out _ _ HBl.out h6)
                         have HO6 := Lib.hid (own_later HOl.out h6)
                         clear h6 c0 c1))
                    have HIN1 := Lib.hid (fun w => refInput_ok i (by omega) j (by omega) y (by omega) w (input i j (nb y)) rfl)
                    have HCH1 : Hid (∀ w, Calls Tryd.prog 32 #[.int .i64 (i : Int), .int .i64 (j : Int), .int .i64 ((j : Int) + 1), .string y] w fun e w' => ∃ u : ByteArray, e = .returned (.string u) ∧ nb u = chain i j 1 (nb y) ∧ Below w.heap.size w w') := Lib.hid (fun w => by
                      have h := refChain_ok i j (j + 1) (by omega) (by omega) (by omega) y (by omega) w (chain i j 1 (nb y)) (by rw [Nat.add_sub_cancel_left])
                      rw [Int.natCast_add] at h
                      exact h)
                    go_upto_region 30 with (first
                      | (go_at_call 79
                         (refine (HIN1.out _).mono ?_)
                         rintro e w7 ⟨u7, rfl, hu7, h7⟩
                         have HU7 := Lib.hid hu7
                         have HB7 := Lib.hid (HST.out _ _ HB6.out h7)
                         have HO7 := Lib.hid (own_later HO6.out h7)
                         have HW7 : Hid (M ≤ w7.heap.size) := Lib.hid (by have := HB7.out.size; have := HM.out; omega)
                         clear hu7 h7)
                      | (at_builtin
                         refine app_str rfl _ _ rfl M _ (OL + j) (OS ++ ls) (by rfl) HO7.out HW7.out (by omega) u7 1 (by rfl) ?_
                         intro v8 w8 ho8 hb8
                         have HO8 := Lib.hid ho8
                         have HB8 : Hid (Below M w2 w8) := Lib.hid (HB7.out.trans hb8)
                         clear ho8 hb8))
                    go_upto_region 28 with (first
                      | (go_at_call 32
                         (refine (HCH1.out _).mono ?_)
                         rintro e w9 ⟨y9, rfl, hy9, h9⟩
                         have HY9' := Lib.hid hy9
                         have HB9 := Lib.hid (HST.out _ _ HB8.out h9)
                         have HO9 := Lib.hid (own_later HO8.out h9)
                         clear hy9 h9))
                    go_wp2_with fail
                    go_roundw
                    case rel =>
                      refine ⟨j + 1, ls ++ [u7], y9, hjZ, by go_num, rfl, ?_, by rw [List.length_append, HLL.out]; rfl, ?_, ?_, ?_, HB9.out⟩
                      · rw [← nb_length, HY9'.out, chain_length _ _ _ _ (by rw [nb_length]; exact HY32.out)]
                      · show _ = _
                        rw [HY9'.out, HY.out]
                        have h := chain_add i j 0 1 (secret (nb seed) i)
                        rw [Nat.zero_add] at h
                        exact h.symm
                      · show _ = _
                        rw [List.map_append, HLS.out, links_succ, Nat.zero_add, ← HY.out, ← HU7.out]
                        rfl
                      · show World.ownsRow _ _ _ _ _ _ _
                        rw [← List.append_assoc, ← Nat.add_assoc]
                        exact HO9.out
                    case measure => simp [intOf]; omega
                  · have hji : ¬ (j : Int) < (Z : Int) := by omega
                    have hjz : j = Z := by omega
                    have HJZ := Lib.hid hjz
                    clear hjz
                    go_wp2_with (first
                      | (go_at_call 69
                         (refine (HBA.out _).mono ?_)
                         rintro e w6 ⟨rfl, h6⟩
                         have HB6 := Lib.hid (HST.out _ _ HBl.out h6)
                         have HO6 := Lib.hid (own_later HOl.out h6)
                         clear h6 c0 c1))
                    have HLN : Hid ((OS ++ ls).length = OL + j) := Lib.hid (by rw [List.length_append, HOSE.out, List.length_append, HLL.out, ← HOL.out]; rfl)
                    go_roundw
                    case rel =>
                      refine ⟨i + 1, OS ++ ls, hlt, by go_num, by rw [HLN.out]; omega, ?_, by rw [HLN.out]; exact HO6.out, HB6.out⟩
                      show _ = _
                      rw [range_flat, List.map_append, HOSE.out, List.map_append, HOS.out, HLS.out, List.append_assoc]
                      congr 1
                      show [nb si, nb so] ++ links i 0 j (secret (nb seed) i) = laysS b (nb seed) i
                      unfold laysS
                      rw [HZ.out, HJZ.out, HSI.out, HSO.out]
                      rfl
                    case measure => simp [intOf]; omega
    · have hii : ¬ (i : Int) < (L : Int) := by omega
      have hie : i = L := by omega
      have HIL := Lib.hid hie
      clear hie
      have HAS : Hid (∀ V, Below M w2 V → StrsAt V a ss) := Lib.hid (fun V h => HS.out.later (HEND.out V (H2.out.trans (h.mono HNM.out))))
      have HAV : Hid (∀ V, Below M w2 V → StrsAt V a2 vs0) := Lib.hid (fun V h => HS2.out.later (by rw [HM.out]; exact h))
      obtain ⟨c0, c1⟩ := HCM.out wa HBwa.out
      go_upto_region 33 with (first
        | (go_at_call 27
           (refine (HDG.out _).mono ?_)
           rintro e w3 ⟨x3, L3, rfl, hL3, ho3, h3⟩
           rw [HDL.out] at hL3
           have hL4 := hL3.symm
           subst hL4
           have HD3 : Hid (w3.ownsRow M 3 1 x3 L (natV DG)) := Lib.hid (ownsRow_base ho3 (by have := HBwa.out.size; have := HM.out; omega))
           have HO3 := Lib.hid (own_later HOwa.out h3)
           have HB3 := Lib.hid (HST.out _ _ HBwa.out h3)
           clear h3 ho3 hL3 c0 c1))
      obtain ⟨a20, cp20, rfl, hl20, hc20, hI20, hnil20⟩ := own_ints HD3.out
      clear hl20 hc20 hI20 hnil20
      obtain ⟨OL, hOL⟩ := ex_eq os.length
      rw [hOL] at HO3 hol
      have HOL := Lib.hid hOL
      clear hOL
      go_upto_region 34 with fail
      go_loopw [9, 126] (fun xo3 ym wr => ∃ (m : Nat) (ps : List ByteArray), m ≤ L ∧ ym = .int .i64 (m : Int) ∧ ps.length ≤ m * 255 ∧ Hid (ps.map nb = (List.range m).flatMap (laysP b DG (ss.map nb))) ∧ Hid (wr.ownsRow M 9 1 xo3 (OL + ps.length) (strV (os ++ ps))) ∧ Hid (wr.ownsRow M 3 1 (.slice a20 L cp20) L (natV DG)) ∧ Hid (Below M w2 wr)) (fun _ ym _ => L - (intOf ym).toNat)
      case atStart => exact ⟨0, [], by omega, rfl, by simp, rfl, by rw [List.append_nil]; exact HO3.out, HD3.out, HB3.out⟩
      case round =>
        obtain ⟨m, ps, hm, rfl, hpl, HPS, HOm, HDm, HBm⟩ := hrel
        obtain ⟨wm, hwm⟩ : ∃ t, t = wr := ⟨_, rfl⟩
        subst hwm
        obtain ⟨xm, hxm⟩ : ∃ t, t = u9 := ⟨_, rfl⟩
        subst hxm
        by_cases hmL : m < L
        · have hmi : (m : Int) < (L : Int) := by omega
          obtain ⟨b1, o1, rfl, hcs⟩ : ∃ b o, a = some ⟨b, o, none⟩ ∧ ∀ j, j < ss.length → wm.cell? ⟨b, o + j, none⟩ = some (.string (ss.getD j ByteArray.empty)) := by
            rcases HAS.out wm HBm.out with h | h
            · have := HLE.out; rw [h] at this; simp at this; omega
            · exact h
          have hc := hcs m (by rw [HLE.out]; exact hmL)
          obtain ⟨a21, cp21, he21, hl21, hc21, hI21, hnil21⟩ := own_ints HDm.out
          have he22 := (Value.slice.injEq _ _ _ _ _ _).mp he21
          obtain ⟨b3, o3, he23, hcs3⟩ : ∃ b o, a21 = some ⟨b, o, none⟩ ∧ ∀ j, j < DG.length → wm.cell? ⟨b, o + j, none⟩ = some (.int .i64 ((DG.getD j 0 : Nat) : Int)) := by
            rcases hI21 with h | h
            · have := HDL.out; rw [h] at this; simp at this; omega
            · exact h
          have he24 := he22.1.trans he23
          subst he24
          have hd := hcs3 m (by rw [HDL.out]; exact hmL)
          have hd2 : DG.getD m 0 ≤ Z := HDA.out _ (getD_mem _ _ _ (by rw [HDL.out]; exact hmL))
          have hp32 : (ss.getD m ByteArray.empty).size = 32 := H32.out _ (getD_mem _ _ _ (by rw [HLE.out]; exact hmL))
          have HGM := Lib.hid (getD_map ss m (by rw [HLE.out]; exact hmL))
          obtain ⟨p, hpe⟩ := ex_eq (ss.getD m ByteArray.empty)
          rw [hpe] at hc hp32 HGM
          obtain ⟨d, hde⟩ := ex_eq (DG.getD m 0)
          rw [hde] at hd hd2
          have HDE := Lib.hid hde
          clear hcs hcs3 hpe hde he21 he22 he23 hl21 hc21 hI21 hnil21
          go_upto_region 37 with fail
          clear hc hd
          obtain ⟨PL, hPL⟩ := ex_eq (OL + ps.length)
          rw [hPL] at HOm
          have hPL2 : PL ≤ 1000000 := by omega
          have HPL := Lib.hid hPL
          clear hPL
          obtain ⟨PS, hPS⟩ := ex_eq (os ++ ps)
          rw [hPS] at HOm
          have HPSE := Lib.hid hPS
          clear hPS
          go_loopw [9, 22, 23] (fun xo4 x4 yj wr => ∃ (j : Nat) (ls : List ByteArray) (y : ByteArray), d ≤ j ∧ j ≤ Z ∧ yj = .int .i64 (j : Int) ∧ x4 = .string y ∧ y.size = 32 ∧ ls.length = j - d ∧ Hid (nb y = chain m d (j - d) (nb p)) ∧ Hid (ls.map nb = links m d (j - d) (nb p)) ∧ Hid (wr.ownsRow M 9 1 xo4 (PL + (j - d)) (strV (PS ++ ls))) ∧ Hid (wr.ownsRow M 3 1 (.slice (some ⟨b3, o3, none⟩) L cp20) L (natV DG)) ∧ Hid (Below M w2 wr)) (fun _ _ yj _ => Z - (intOf yj).toNat)
          case atStart => exact ⟨d, [], p, Nat.le_refl _, hd2, rfl, rfl, hp32, by simp, by show _ = _; rw [Nat.sub_self]; rfl, by show _ = _; rw [Nat.sub_self]; rfl, by show World.ownsRow _ _ _ _ _ _ _; rw [Nat.sub_self, List.append_nil]; exact HOm.out, HDm.out, HBm.out⟩
          case round =>
            obtain ⟨j, ls, y, hdj, hj, rfl, rfl, hy32, hll, HY, HLS, HOl, HDl, HBl⟩ := hrel
            have HLL := Lib.hid hll
            clear hll
            obtain ⟨c0, c1⟩ := HCM.out wr HBl.out
            have hwZ : IntKind.i64.wrap ((Z : Int) + 1 - 1) = (Z : Int) := by rw [IntKind.wrap_i64]; omega
            have hwZ2 : IntKind.i64.wrap (Z : Int) = (Z : Int) := by rw [IntKind.wrap_i64]; omega
            by_cases hjZ : j < Z
            · have hji : (j : Int) < (Z : Int) := by omega
              have HY32 := Lib.hid hy32
              obtain ⟨q, hq⟩ := ex_eq (j - d)
              have HQ := Lib.hid hq
              have hq9 : q ≤ 1000 := by omega
              rw [hq] at HOl
              clear hq
              go_upto_region 39 with (first
                | (go_at_call 69
                   (refine (HBA.out _).mono ?_)
                   rintro e w6 ⟨rfl, h6⟩
                   have HB6 := Lib.hid (HST.out _ _ HBl.out h6)
                   have HO6 := Lib.hid (own_later HOl.out h6)
                   have HD6 := Lib.hid (own_later HDl.out h6)
                   clear h6 c0 c1))
              have HIN1 := Lib.hid (fun w => refInput_ok m (by omega) j (by omega) y (by omega) w (input m j (nb y)) rfl)
              have HCH1 : Hid (∀ w, Calls Tryd.prog 32 #[.int .i64 (m : Int), .int .i64 (j : Int), .int .i64 ((j : Int) + 1), .string y] w fun e w' => ∃ u : ByteArray, e = .returned (.string u) ∧ nb u = chain m j 1 (nb y) ∧ Below w.heap.size w w') := Lib.hid (fun w => by
                have h := refChain_ok m j (j + 1) (by omega) (by omega) (by omega) y (by omega) w (chain m j 1 (nb y)) (by rw [Nat.add_sub_cancel_left])
                rw [Int.natCast_add] at h
                exact h)
              go_upto_region 40 with (first
                | (go_at_call 79
                   (refine (HIN1.out _).mono ?_)
                   rintro e w7 ⟨u7, rfl, hu7, h7⟩
                   have HU7 := Lib.hid hu7
                   have HB7 := Lib.hid (HST.out _ _ HB6.out h7)
                   have HO7 := Lib.hid (own_later HO6.out h7)
                   have HD7 := Lib.hid (own_later HD6.out h7)
                   have HW7 : Hid (M ≤ w7.heap.size) := Lib.hid (by have := HB7.out.size; have := HM.out; omega)
                   clear hu7 h7)
                | (at_builtin
                   refine app_strC rfl _ _ rfl M _ (PL + q) (PS ++ ls) (by rfl) HO7.out HW7.out (by omega) u7 1 (by rfl) ?_
                   intro v8 w8 ho8 hb8 hc8
                   have HO8 := Lib.hid ho8
                   have HD8 := Lib.hid (ints_keep HD7.out HO7.out hc8)
                   have HB8 : Hid (Below M w2 w8) := Lib.hid (HB7.out.trans hb8)
                   clear ho8 hb8 hc8))
              go_upto_region 38 with (first
                | (go_at_call 32
                   (refine (HCH1.out _).mono ?_)
                   rintro e w9 ⟨y9, rfl, hy9, h9⟩
                   have HY9' := Lib.hid hy9
                   have HB9 := Lib.hid (HST.out _ _ HB8.out h9)
                   have HO9 := Lib.hid (own_later HO8.out h9)
                   have HD9 := Lib.hid (own_later HD8.out h9)
                   clear hy9 h9))
              go_wp2_with fail
              go_roundw
              case rel =>
                have hj1 : j + 1 - d = q + 1 := by have := HQ.out; omega
                refine ⟨j + 1, ls ++ [u7], y9, by omega, hjZ, by go_num, rfl, ?_, by rw [List.length_append, HLL.out, hj1, HQ.out]; rfl, ?_, ?_, ?_, HD9.out, HB9.out⟩
                · rw [← nb_length, HY9'.out, chain_length _ _ _ _ (by rw [nb_length]; exact HY32.out)]
                · show _ = _
                  have h := chain_add m q d 1 (nb p)
                  rw [show d + q = j by have := HQ.out; omega] at h
                  rw [HY9'.out, HY.out, hj1, HQ.out]
                  exact h.symm
                · show _ = _
                  rw [List.map_append, HLS.out, hj1, HQ.out, links_succ, show d + q = j by have := HQ.out; omega, ← HQ.out, ← HY.out, ← HU7.out]
                  rfl
                · show World.ownsRow _ _ _ _ _ _ _
                  rw [hj1, ← List.append_assoc, ← Nat.add_assoc]
                  exact HO9.out
              case measure => simp [intOf]; omega
            · have hji : ¬ (j : Int) < (Z : Int) := by omega
              have hjz : j = Z := by omega
              have HJZ := Lib.hid hjz
              clear hjz
              go_wp2_with (first
                | (go_at_call 69
                   (refine (HBA.out _).mono ?_)
                   rintro e w6 ⟨rfl, h6⟩
                   have HB6 := Lib.hid (HST.out _ _ HBl.out h6)
                   have HO6 := Lib.hid (own_later HOl.out h6)
                   have HD6 := Lib.hid (own_later HDl.out h6)
                   clear h6 c0 c1))
              have hLN : (ps ++ ls).length = ps.length + (j - d) := by rw [List.length_append, HLL.out]
              go_roundw
              case rel =>
                refine ⟨m + 1, ps ++ ls, hmL, by go_num, by rw [hLN]; omega, ?_, ?_, HD6.out, HB6.out⟩
                · show _ = _
                  rw [range_flat, List.map_append, HPS.out, HLS.out]
                  congr 1
                  unfold laysP
                  rw [HZ.out, HDE.out, HGM.out, HJZ.out]
                · show World.ownsRow _ _ _ _ _ _ _
                  rw [hLN, ← List.append_assoc, ← Nat.add_assoc, HPL.out, HPSE.out]
                  exact HO6.out
              case measure => simp [intOf]; omega
        · have hmi : ¬ (m : Int) < (L : Int) := by omega
          have hme : m = L := by omega
          have HME := Lib.hid hme
          clear hme
          go_upto_region 42 with fail
          obtain ⟨c0, c1⟩ := HCM.out wm HBm.out
          have hmk := mk_ints L (by omega)
          refine Kit.wp_region_gplan (fun V => V.cell? ⟨N, 0, none⟩ = some (.int .i64 (b : Int)) ∧ V.cell? ⟨N, 1, none⟩ = some (.int .i64 (dg.size : Int))) [(true, 0), (true, 1), (true, 2), (true, 3), (true, 5), (true, 7), (true, 8), (true, 9), (false, 4), (false, 6), (false, 10), (false, 11), (false, 12), (true, 13)] (by kernel_rfl) (by kernel_rfl) (by kernel_rfl) (by kernel_rfl) ⟨c0, c1⟩ ?_
          iterate 8 (refine Kit.gplan_head (by rfl) (.inl ⟨by rfl, fun w' hS => by (dsimp only at hS); go_simp; (try with_reducible rfl)⟩) ?_; simp only [Act.put, List.setIfInBounds_toArray, List.set_cons_zero, List.set_cons_succ])
          clear c0 c1
          refine Kit.gplan_op (by rfl) (by rfl) fun K hK => ?_
          go_simp
          have H3 : Hid (Below M w2 (wm.alloc (.cells (natV (List.replicate L 0)).toArray 3)).drew) := Lib.hid (HBm.out.alloc (by have := HBm.out.size; have := HM.out; omega) _).drew
          have hb3 : Below wm.heap.size wm (wm.alloc (.cells (natV (List.replicate L 0)).toArray 3)).drew := ((Below.refl _ wm).alloc (Nat.le_refl _) _).drew
          have HI3 : Hid (IntsAt (wm.alloc (.cells (natV (List.replicate L 0)).toArray 3)).drew (some ⟨wm.heap.size, 0, none⟩) (List.replicate L 0)) := Lib.hid (ints_of_row (t := 3) (fr := (0, 0)) (heap_alloc_new wm _))
          have HO3m := Lib.hid (own_later HOm.out hb3)
          have HD3m := Lib.hid (own_later HDm.out hb3)
          clear hb3
          refine hK _ _ (HCM.out _ H3.out) ?_
          clear hK K hmk
          obtain ⟨w4, hw4⟩ := ex_eq (wm.alloc (.cells (natV (List.replicate L 0)).toArray 3)).drew
          rw [hw4] at H3 HI3 HO3m HD3m ⊢
          clear hw4
          obtain ⟨g, hg⟩ := ex_eq wm.heap.size
          rw [hg] at HI3 ⊢
          clear hg
          refine Kit.gplan_op (by rfl) (by rfl) fun K hK => ?_
          go_simp
          go_at_call 83
          refine (HEN.out g a2 cp2 L vs0 HL2.out (by omega) HV32.out w4 HI3.out (HAV.out _ H3.out)).mono ?_
          rintro e w5 ⟨e1, rfl, he1, h5⟩
          rw [HVS.out] at he1
          have HE1 := Lib.hid he1
          have H5 : Hid (Below M w2 w5) := Lib.hid (HST.out _ _ H3.out h5)
          have HO5 := Lib.hid (own_later HO3m.out h5)
          have HD5 := Lib.hid (own_later HD3m.out h5)
          clear h5 he1
          refine hK _ _ (HCM.out _ H5.out) ?_
          clear hK K
          refine Kit.gplan_op (by rfl) (by rfl) fun K hK => ?_
          go_simp
          go_at_call 83
          have hI5 : IntsAt w5 a20 DG := by
            obtain ⟨a21, cp21, he21, hl21, hc21, hI21, hnil21⟩ := own_ints HD5.out
            have he22 := (Value.slice.injEq _ _ _ _ _ _).mp he21
            rw [he22.1]
            exact hI21
          refine (HEP.out a20 cp20 w5 hI5 (HAS.out _ H5.out)).mono ?_
          clear hI5
          rintro e w6 ⟨e2, rfl, he2, h6⟩
          have HE2 := Lib.hid he2
          have H6 : Hid (Below M w2 w6) := Lib.hid (HST.out _ _ H5.out h6)
          have HO6 := Lib.hid (own_later HO5.out h6)
          clear h6 he2
          refine hK _ _ (HCM.out _ H6.out) ?_
          clear hK K
          refine Kit.gplan_op (by rfl) (by rfl) fun K hK => ?_
          go_simp
          have HW6 : Hid (M ≤ w6.heap.size) := Lib.hid (by have := H6.out.size; have := HM.out; omega)
          have H7 : Hid (Below M w2 (w6.alloc (.cells #[.string e1, .string e2] 9))) := Lib.hid (H6.out.alloc HW6.out _)
          refine hK _ _ (HCM.out _ H7.out) ?_
          clear hK K H7
          have HPE : Hid (os ++ ps = os ++ ps) := rfl
          have hPLe : OL + ps.length ≤ 1000000 := by omega
          refine Kit.gplan_op (by rfl) (by rfl) fun K hK => ?_
          refine wp_app_str2 (.tmp 156) (.tmp 167) (by rfl) M _ (OL + ps.length) (os ++ ps) (by rfl) HO6.out HW6.out (by omega) e1 e2 2 (by rfl) ?_
          intro v8 w8 ho8 hb8
          have HO8 := Lib.hid ho8
          have H8 : Hid (Below M w2 w8) := Lib.hid (H6.out.trans hb8)
          clear ho8 hb8
          refine hK _ _ (HCM.out _ H8.out) ?_
          clear hK K
          simp only [Act.put, List.setIfInBounds_toArray, List.set_cons_zero, List.set_cons_succ]
          refine Kit.gplan_head (by rfl) (.inl ⟨by rfl, fun w' hS => by (dsimp only at hS); go_simp; (try with_reducible rfl)⟩) ?_
          refine Kit.gplan_done ?_
          (try simp only [Act.put, List.setIfInBounds_toArray, List.set_cons_zero, List.set_cons_succ])
          go_wp2_with fail
          go_ret
          refine ⟨_, rfl, _, os ++ ps ++ [e1, e2], ?_, ?_, ownsRow_base HO8.out (by have := HN.out; have := HNM.out; omega), HEND.out _ (H2.out.trans (H8.out.mono HNM.out))⟩
          · have hDL := HDL.out
            rw [← summed_eq, hDL, List.map_append, List.map_append, HOS.out, HPS.out, HIL.out, HME.out, List.length_map, HLE.out]
            show _ ++ _ ++ [nb e1, nb e2] = _
            rw [HE1.out, HE2.out, ends_zero b _ (zeros_get L)]
          · rw [List.length_append, List.length_append, HOL.out]; rfl
end Go.Proofs.YtmnendoloankgaaDoor
