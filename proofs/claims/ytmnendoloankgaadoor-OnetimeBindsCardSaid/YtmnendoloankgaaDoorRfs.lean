/- The document's SHA-256: Sum. -/
import Derived.Test.YtmnendoloankgaaDoorRfp
import Derived.Test.YtmnendoloankgaaDoorRfb
namespace Go.Proofs.YtmnendoloankgaaDoor
set_option linter.unusedVariables false
set_option linter.unusedSimpArgs false
open Go.RowKit
open Kit (Chg)
open Sha (v)
open Go.Proofs.YtmnendoloankgaaDoor.One

theorem init_row : (#[.int .u32 1779033703, .int .u32 3144134277, .int .u32 1013904242, .int .u32 2773480762, .int .u32 1359893119, .int .u32 2600822924, .int .u32 528734635, .int .u32 1541459225] : Array Value) = (wordsL (Sha.hs [] 0)).toArray := rfl
theorem hs_zero (P : List Nat) : Sha.hs P 0 = Sha.hs [] 0 := rfl
theorem wp_app_four {o : Oper} {a : Act} {K : Act → World → Prop} {Q : Exit → Act → World → Prop} {w0 : World} (s x : Operand) (ho : o.op = .call { callee := .builtin .append, args := #[s, x], argTypes := #[68, 68] })
    (base : Nat) (v : Value) (L : Nat) (cur : List Nat) (hs : a.eval s = v) (hown : w0.ownsRow base 5 1 v L (bvals cur)) (hb : base ≤ w0.heap.size) (hL : L ≤ 1000000000000)
    (E0 E1 E2 E3 : Int) (bs : List Nat) (hE : bvals bs = [.int .u8 E0, .int .u8 E1, .int .u8 E2, .int .u8 E3]) (c : Nat) (hx : a.eval x = .slice (some ⟨w0.heap.size, 0, none⟩) 4 c)
    (h : ∀ v' w', w'.ownsRow base 5 1 v' (L + 4) (bvals (cur ++ bs)) → Below base w0 w' → K (a.put o.dst v') w') : o.wp Tryd.prog a (w0.alloc (.cells #[.int .u8 E0, .int .u8 E1, .int .u8 E2, .int .u8 E3] 5)) K Q := by
  obtain ⟨i0, hi, hz0, hz1, hz2⟩ := info_parts Tryd.info5
  refine wp_append_own _ s x 68 ho base 5 i0 (.int .u8 0) 1 1 Tryd.underlying68 hi hz0 hz1 hz2 rfl (by decide) v L (bvals cur) hs (hown.alloc _) ⟨w0.heap.size, 0, none⟩ 4 c [.int .u8 E0, .int .u8 E1, .int .u8 E2, .int .u8 E3] hx rfl (by intro j u hu; rw [add_none]; exact cells_new_at _ _ _ j u hu) (by simp [Value.oneCell']) (by unfold maxLen; omega) (by omega) (by simp; omega) ?_
  intro v' w4 hown4 hgr4 _
  refine h v' w4 (by rw [bvals_append, hE]; exact hown4) ?_
  exact ((Chg.alloc1 w0 _).trans (Chg.of_grown hgr4 (fun q _ e => (hown.lt q e).1)) : Chg (fun q _ => base ≤ q) w0 w4).below hb (fun q i hq h => by omega)
theorem chg_setRow {M : Nat → Nat → Prop} (w : World) (g : Nat) (cs : Array Value) (hM : ∀ i, M g i) : Chg M w (w.setRow g cs) :=
  ⟨rfl, rfl, rfl, by simp [World.setRow], fun k _ hn => setRow_other w g k cs (fun e => hn 0 (e ▸ hM 0)), fun k hn c e f hc =>
    ⟨c, (setRow_other w g k cs (fun e => by obtain ⟨i, hi⟩ := hn; exact hi (e ▸ hM i))).trans hc, rfl, fun _ _ => rfl⟩⟩
set_option maxRecDepth 100000 in
set_option maxHeartbeats 2000000 in
theorem refSum_l (a : Option Addr) (cap : Nat) (xs : List Nat) (L : Nat) (hLe : xs.length = L) (hnil : a = none → cap = 0) (hl : L ≤ 100000000000) (w : World) (hB : BytesAt w a xs) :
    Calls Tryd.prog 78 #[.slice a L cap] w fun e w' => ∃ u : ByteArray, e = .returned (.string u) ∧ nb u = Sha.sum xs ∧ Below w.heap.size w w' := by
  have HB := Lib.hid hB
  have HNIL := Lib.hid hnil
  have HLE := Lib.hid hLe
  have HSUM : Hid (Sha.sum xs = Sha.digest (Sha.hs (Sha.pad xs) (Sha.pad xs).length)) := rfl
  have HP64 : Hid ((Sha.pad xs).length % 64 = 0) := Lib.hid (Sha.pad_length xs)
  have HPL : Hid ((Sha.pad xs).length ≤ 200000000000) := Lib.hid (by
    unfold Sha.pad Sha.zeros
    rw [List.length_append, List.length_cons, List.length_append, List.length_replicate, Sha.be8_length]
    omega)
  have HPB : Hid (∀ x ∈ Sha.pad xs, x < 256) := Lib.hid (fun x hx => by
    unfold Sha.pad at hx
    rcases List.mem_append.1 hx with h | h
    · exact hB.2.1 x h
    · rcases List.mem_cons.1 h with h | h
      · omega
      · rcases List.mem_append.1 h with h | h
        · rw [List.eq_of_mem_replicate h]; decide
        · exact Sha.be8_lt _ x h)
  have HPAD := Lib.hid (fun w hB => refPad_l a cap xs L hLe hnil hl w hB)
  obtain ⟨P, hP⟩ := ex_eq (Sha.pad xs)
  rw [hP] at HSUM HP64 HPL HPB HPAD
  obtain ⟨PL, hPL⟩ := ex_eq P.length
  rw [hPL] at HSUM HP64 HPL HPAD
  have HPLE := Lib.hid hPL
  clear hB hnil hLe hP hPL
  go_enter Tryd.func78, Tryd.ntmps78
  go_upto_region 2 with fail
  rw [init_row, ← hs_zero P]
  refine wp_over (fun W => Hid (W.heap[w.heap.size]? = some (.cells (wordsL (Sha.hs P 0)).toArray 128 (0, 0))) ∧ Hid (Below w.heap.size w W) ∧ Hid (W.heap.size = w.heap.size + 1)) ⟨heap_alloc_new _ _, (Below.refl _ _).alloc (Nat.le_refl _) _, by show _ = _; simp⟩ ?_
  rintro W ⟨HR0, HB0, HW0⟩
  obtain ⟨N, hN⟩ := ex_eq w.heap.size
  rw [hN] at HR0 HB0 HW0 ⊢
  have HN := Lib.hid hN
  clear hN
  go_upto_region 3 with (first
    | (with_reducible refine (HPAD.out _ (HB.out.later (by rw [HN.out]; exact HB0.out))).mono ?_
       rintro e w1 ⟨vp, cp0, rfl, hc, ho1, h1⟩
       rw [hc] at ho1
       rw [HW0.out] at ho1 h1
       have HO1 := Lib.hid ho1
       have H1 := Lib.hid h1
       clear hc ho1 h1))
  obtain ⟨ap, cp, rfl, hpl2, hpc, hPB, hpnil, hpblk⟩ := own_bytes HO1.out HPB.out (by rw [HPLE.out]; have := HPL.out; unfold maxLen; omega)
  rw [HPLE.out] at hpc
  have HPB1 := Lib.hid hPB
  have HPN := Lib.hid hpnil
  have HPC := Lib.hid hpc
  have HPK := Lib.hid hpblk
  have HW1 : Hid (N + 1 ≤ w1.heap.size) := Lib.hid (by have := H1.out.size; have := HW0.out; omega)
  have HR1 : Hid (w1.heap[N]? = some (.cells (wordsL (Sha.hs P 0)).toArray 128 (0, 0))) := Lib.hid ((H1.out.block N (Nat.lt_succ_self N)).trans HR0.out)
  have HNW : Hid (N ≤ w.heap.size) := Lib.hid (by have := HN.out; omega)
  have HB1 : Hid (Below N w w1) := Lib.hid (HB0.out.trans (H1.out.mono (Nat.le_succ N)))
  clear hpl2 hpc hPB hpnil hpblk HPAD HB HNIL HO1 HR0
  have HBYP : Hid (∀ V, Chg (fun q i => q = N) w1 V → BytesAt V ap P) := Lib.hid (fun V h => bytesAt_chg HPB1.out h (fun ad e i hi => by have := (HPK.out ad e).1; omega))
  have hPLi : (PL : Int) ≤ 200000000000 := by have := HPL.out; omega
  go_wp2_with fail
  go_loopw [5] (fun x wr => ∃ i : Nat, x = .int .i64 (i : Int) ∧ i ≤ PL ∧ Hid (i % 64 = 0) ∧ Hid (wr.heap[N]? = some (.cells (wordsL (Sha.hs P i)).toArray 128 (0, 0))) ∧ Hid (Chg (fun q i => q = N) w1 wr)) (fun x _ => PL - (intOf x).toNat)
  case atStart => exact ⟨0, rfl, Nat.zero_le _, rfl, HR1.out, Chg.refl _ _⟩
  case round =>
    obtain ⟨i, rfl, hi, HI64, HROW, HCH⟩ := hrel
    by_cases hlt : i < PL
    · have hii : (i : Int) < (PL : Int) := by omega
      have hi64 : i + 64 ≤ PL := by have := HI64.out; have := HP64.out; omega
      have hsl := slice_lh ap PL cp i (i + 64) (by omega) (by have := HPC.out; omega)
      rw [show ((i + 64 : Nat) : Int) = (i : Int) + 64 by omega, show i + 64 - i = 64 by omega] at hsl
      have HBL : Hid (BytesAt wr (subA ap i cp) ((P.take (i + 64)).drop i)) := Lib.hid (bytesAt_sub (HBYP.out _ HCH.out) (by rw [HPLE.out]; exact HPC.out) i (i + 64))
      obtain ⟨A2, hA2⟩ := ex_eq (subA ap i cp)
      obtain ⟨C2, hC2⟩ := ex_eq (cp - i)
      rw [hA2] at HBL
      rw [hA2, hC2] at hsl
      have HC2 : Hid (64 ≤ C2) := Lib.hid (by have := HPC.out; omega)
      have HXL : Hid (((P.take (i + 64)).drop i).length = 64) := Lib.hid (by rw [List.length_drop, List.length_take, HPLE.out]; omega)
      have HBK : Hid (Sha.hs P (i + 64) = Sha.comp (Sha.hs P i) ((P.take (i + 64)).drop i)) := Lib.hid (Sha.hs_block P i HI64.out)
      obtain ⟨S, hS⟩ := ex_eq (Sha.hs P i)
      rw [hS] at HROW HBK
      obtain ⟨xb, hxb⟩ := ex_eq ((P.take (i + 64)).drop i)
      rw [hxb] at HBL HXL HBK
      obtain ⟨RS, hRS⟩ := ex_eq (wordsL S).toArray
      have hss := wordsL_size S
      rw [hRS] at HROW hss
      have HSS := Lib.hid hss
      have HRS := Lib.hid hRS
      clear hA2 hC2 hS hxb hRS hss hi64
      have hw64 : IntKind.i64.wrap ((i : Int) + 64) = (i : Int) + 64 := by rw [IntKind.wrap_i64]; omega
      go_upto_region 6 with fail
      refine Kit.wp_region_headsL (fun X => X.heap[N]? = some (.cells RS 128 (0, 0))) 7 [0, 1, 2, 3, 4, 5] [6, 7] (by kernel_rfl) (by kernel_rfl) (by kernel_rfl) (by kernel_rfl) HROW.out ?_
      refine Kit.heads_cons (by rfl) (.inl ⟨by rfl, fun w' hS => load_cells_yield 128 (.tmp 3) rfl N 0 rfl RS.toList (fun j u hj => by rw [Nat.zero_add, cell_of_row _ _ _ _ _ _ hS, ← hj]; simp) _ Tryd.underlying128 rfl (by rw [Array.length_toList, HSS.out]; exact Tryd.size128) RS (by simp)⟩) ?_
      simp only [Act.put, List.setIfInBounds_toArray, List.set_cons_zero, List.set_cons_succ]
      iterate 5 (refine Kit.heads_cons (by rfl) (.inl ⟨by rfl, fun w' hS => by (dsimp only at hS); go_simp; (try with_reducible rfl)⟩) ?_; simp only [Act.put, List.setIfInBounds_toArray, List.set_cons_zero, List.set_cons_succ])
      refine Kit.heads_nil ?_
      refine Kit.chainL_cons (by rfl) rfl fun K hK => ?_
      go_simp
      go_at_call 107
      refine (refBlock_any S A2 C2 xb HXL.out HC2.out wr.drew HBL.out RS HRS.out).mono ?_
      rintro e w2 ⟨rfl, h2⟩
      have HW2 : Hid (wr.heap.size ≤ w2.heap.size) := Lib.hid h2.size
      have hr2 : w2.heap[N]? = some (.cells RS 128 (0, 0)) := (h2.block N (Array.getElem?_eq_some_iff.1 HROW.out).1).trans HROW.out
      have HR2 := Lib.hid hr2
      have HC2' : Hid (Chg (fun q i => q = N) w1 w2) := Lib.hid (HCH.out.drew.trans (Chg.of_below h2))
      clear h2 hr2
      refine hK _ _ (fun _ => HR2.out) ?_
      clear hK K
      refine Kit.chainL_cons (by rfl) rfl fun K hK => wp_store_row 128 (.tmp 3) (.tmp 23) rfl N (wordsL (Sha.comp S xb)).toArray (by rfl) (by rfl) 128 RS HR2.out (by rw [wordsL_size]; exact Tryd.size128) (by rw [HSS.out, wordsL_size]) (wordsL_one _) (hK _ _ (fun h => absurd rfl h) (Kit.chainL_done ?_))
      simp only [Act.put]
      go_wp2_with fail
      go_roundw
      case rel => exact ⟨i + 64, by go_num, by have := HI64.out; have := HP64.out; omega, by show _ = _; have := HI64.out; omega, by show _ = _; rw [HBK.out]; exact setRow_heap _ _ _ _ _ _ HR2.out, HC2'.out.trans (chg_setRow _ _ _ (fun _ => rfl))⟩
      case measure => simp [intOf]; omega
    · have he : i = PL := by omega
      subst he
      obtain ⟨S, hS⟩ := ex_eq (Sha.hs P i)
      rw [hS] at HROW HSUM
      have HDL : Hid ((Sha.digest S).length = 32) := Lib.hid (Sha.digest_length S)
      rename World => wa
      have HWA : Hid (N + 1 ≤ wa.heap.size) := Lib.hid (by have := HCH.out.size; have := HW1.out; omega)
      have HE := Lib.hid (own_empty (w := wa) (base := N + 1) HWA.out)
      have HBA : Hid (Below (N + 1) wa (wa.alloc (.cells #[] 5))) := Lib.hid ((Below.refl _ _).alloc HWA.out _)
      have HBW : Hid (Below N w wa) := Lib.hid (HB1.out.trans (HCH.out.below (by have := HW1.out; omega) (fun k i hk h => by omega)))
      clear hS hi hlt HPLE HP64 HPL hPLi
      go_upto_region 9 with fail
      go_loopw [6, 7] (fun x y wr => ∃ k : Nat, k ≤ 8 ∧ y = .int .i64 (k : Int) ∧ Hid (wr.ownsRow (N + 1) 5 1 x (4 * k) (bvals ((Sha.digest S).take (4 * k)))) ∧ Hid (Below (N + 1) wa wr)) (fun _ y _ => 8 - (intOf y).toNat)
      case atStart => exact ⟨0, by omega, rfl, HE.out, HBA.out⟩
      case round =>
        obtain ⟨k, hk, rfl, HOW, HBE⟩ := hrel
        have HWR : Hid (N + 1 ≤ wr.heap.size) := Lib.hid (by have := HBE.out.size; have := HWA.out; omega)
        by_cases hlt : k < 8
        · have hki : (k : Int) < 8 := by omega
          have hrow := (HBE.out.block N (Nat.lt_succ_self N)).trans HROW.out
          have cs := words_row hrow k hlt
          have HDT := Lib.hid (digest_take S k hlt)
          obtain ⟨X0, hX⟩ := ex_eq (S.list.getD k 0)
          rw [hX] at cs HDT
          have HX := Lib.hid hX
          obtain ⟨Q0, hq0⟩ : ∃ Q : Prop, Hid Q := ⟨True, trivial⟩
          have r9 := Sha.f_nonneg Q0
          clear hrow hX
          go_upto_region 11 with fail
          refine Kit.wp_region_plan (fun X => X.cell? ⟨N, k, none⟩ = some (.int .u32 (v X0))) [(true, 0), (true, 1), (true, 2), (true, 3), (true, 4), (true, 5), (true, 6), (true, 7), (true, 8), (true, 9), (true, 10), (true, 11), (true, 12), (true, 13), (true, 14), (true, 15), (true, 16), (true, 17), (true, 18), (true, 19), (false, 20), (false, 21), (false, 22)] (by kernel_rfl) (by kernel_rfl) (by kernel_rfl) (by kernel_rfl) cs ?_
          iterate 20 (refine Kit.plan_head (by rfl) (.inl ⟨by rfl, fun w' hS => by (dsimp only at hS); go_simp; (try with_reducible rfl)⟩) ?_; simp only [Act.put, List.setIfInBounds_toArray, List.set_cons_zero, List.set_cons_succ])
          have HCN : Hid (∀ V, Below (N + 1) wa V → V.cell? ⟨N, k, none⟩ = some (.int .u32 (v X0))) := Lib.hid (fun V h => by
            have h1 := words_row ((h.block N (Nat.lt_succ_self N)).trans HROW.out) k hlt
            rw [HX.out] at h1
            exact h1)
          refine Kit.plan_op (by rfl) rfl fun K hK => ?_
          go_simp
          refine hK _ _ (HCN.out _ (HBE.out.drew.alloc HWR.out _)) ?_
          clear hK K
          refine Kit.plan_op (by rfl) rfl fun K hK => ?_
          refine wp_app_four (w0 := wr.drew) _ _ rfl (N + 1) _ (4 * k) _ (by rfl) HOW.out.drew HWR.out (by omega) _ _ _ _ (Sha.bytes4 X0) (by rfl) 4 (by rfl) ?_
          intro v4 w4 ho4 hb4
          have HO4 := Lib.hid ho4
          have HB4 := Lib.hid (HBE.out.drew.trans hb4)
          clear ho4 hb4
          refine hK _ _ (HCN.out _ HB4.out) ?_
          clear hK K
          simp only [Act.put, List.setIfInBounds_toArray, List.set_cons_zero, List.set_cons_succ]
          refine Kit.plan_op (by rfl) rfl fun K hK => ?_
          go_simp
          refine hK _ _ (HCN.out _ HB4.out) (Kit.plan_done ?_)
          clear hK K
          (try simp only [Act.put, List.setIfInBounds_toArray, List.set_cons_zero, List.set_cons_succ])
          go_wp2_with fail
          go_roundw
          case rel => exact ⟨k + 1, by omega, by go_num, by have h := HO4.out; rw [← HDT.out] at h; exact h, HB4.out⟩
          case measure => simp [intOf]; omega
        · have e8 : k = 8 := by omega
          subst e8
          have HD32 : Hid ((Sha.digest S).take (4 * 8) = Sha.sum xs) := Lib.hid (by rw [List.take_of_length_le (by rw [HDL.out]; exact Nat.le_refl _), HSUM.out])
          rw [HD32.out] at HOW
          obtain ⟨a9, cp9, hv9, hl9, _, hB9, _, _⟩ := own_bytes HOW.out (Sha.sum_lt xs) (by rw [Sha.sum_length]; unfold maxLen; omega)
          subst hv9
          have hcv := conv_bytes hB9 cp9
          rw [hl9] at hcv
          go_wp2_with fail
          go_ret
          exact ⟨_, rfl, nb_strB (Sha.sum_lt xs), by rw [HN.out]; exact HBW.out.trans (HBE.out.mono (Nat.le_succ N))⟩
end Go.Proofs.YtmnendoloankgaaDoor
