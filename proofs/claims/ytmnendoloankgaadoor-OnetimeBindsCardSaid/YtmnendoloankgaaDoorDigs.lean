/- onetime: Chains, Digits. -/
import Derived.Test.YtmnendoloankgaaDoorPar
namespace Go.Proofs.YtmnendoloankgaaDoor
set_option linter.unusedVariables false
set_option linter.unusedSimpArgs false
open Go.RowKit
open Kit (Chg)
open Sha (v)
open Go.Proofs.YtmnendoloankgaaDoor.One

theorem chains_ok (b n : Nat) (hB : Bits b) (hn : 0 < n) (hn2 : n ≤ 32) (w : World) : Calls Tryd.prog 24 #[.agg #[.int .i64 (b : Int), .int .i64 (n : Int)]] w fun e w' => ∃ m : Nat, e = .returned (.int .i64 (m : Int)) ∧ m = count b n ∧ Below w.heap.size w w' := by
  have HV : Hid (decide (VP (b : Int) (n : Int)) = true) := Lib.hid (decide_eq_true ⟨by rcases hB with rfl | rfl | rfl | rfl <;> simp, by omega, by omega⟩)
  have HC := Lib.hid (fun w => counts_any b n hB hn hn2 w)
  have HM : Hid (8 * n / b ≤ 256 ∧ cnt b (great b n) ≤ 13) := Lib.hid ⟨by rcases hB with rfl | rfl | rfl | rfl <;> omega, cnt_le hB (great_le hB hn2)⟩
  clear hB hn hn2
  go_enter Tryd.func24, Tryd.ntmps24
  go_upto_region 1 with fail
  refine wp_over (fun W => Hid (W.heap[w.heap.size]? = some (.cells #[.int .i64 (b : Int), .int .i64 (n : Int)] 25 (0, 0))) ∧ Hid (Below w.heap.size w W)) ⟨heap_alloc_new _ _, (Below.refl _ _).alloc (Nat.le_refl _) _⟩ ?_
  rintro W ⟨HG, HB⟩
  have c0 : W.cell? ⟨w.heap.size, 0, none⟩ = some (.int .i64 (b : Int)) := (cell_of_row _ _ _ _ _ _ HG.out).trans rfl
  have c1 : W.cell? ⟨w.heap.size, 1, none⟩ = some (.int .i64 (n : Int)) := (cell_of_row _ _ _ _ _ _ HG.out).trans rfl
  go_upto_region 3 with (first
    | (with_reducible refine (valid_any (b : Int) (n : Int) _).mono ?_
       rintro e w2 ⟨rfl, h2⟩
       rw [HV.out]
       have H2 := Lib.hid (HB.out.trans (h2.mono HB.out.size))
       have HG2 := Lib.hid ((h2.block w.heap.size (Array.getElem?_eq_some_iff.1 HG.out).1).trans HG.out)
       clear h2))
  clear c0 c1
  have c0 : w2.cell? ⟨w.heap.size, 0, none⟩ = some (.int .i64 (b : Int)) := (cell_of_row _ _ _ _ _ _ HG2.out).trans rfl
  have c1 : w2.cell? ⟨w.heap.size, 1, none⟩ = some (.int .i64 (n : Int)) := (cell_of_row _ _ _ _ _ _ HG2.out).trans rfl
  go_upto_region 4 with (first
    | (with_reducible refine (HC.out _).mono ?_
       rintro e w3 ⟨m, c, rfl, hm, hc, h3⟩
       have HM1 := Lib.hid hm
       have HC1 := Lib.hid hc
       have hm2 : m ≤ 256 := by rw [hm]; exact HM.out.1
       have hc2 : c ≤ 13 := by rw [hc]; exact HM.out.2
       have H3 := Lib.hid (H2.out.trans (h3.mono H2.out.size))
       clear h3 hm hc))
  go_wp2_with fail
  go_ret
  exact ⟨m + c, by rfl, by rw [HM1.out, HC1.out]; rfl, H3.out⟩
theorem chains_bad (B S : Int) (hV : ¬ VP B S) (w : World) : Calls Tryd.prog 24 #[.agg #[.int .i64 B, .int .i64 S]] w fun e w' => e = .returned (.int .i64 0) ∧ Below w.heap.size w w' := by
  have HV : Hid (decide (VP B S) = false) := Lib.hid (decide_eq_false hV)
  clear hV
  go_enter Tryd.func24, Tryd.ntmps24
  go_wp2_with (first
    | (with_reducible refine (valid_any B S _).mono ?_
       rintro e w2 ⟨rfl, h2⟩
       rw [HV.out]
       have H2 : Hid (Below w.heap.size w w2) := Lib.hid (((Below.refl _ w).alloc (Nat.le_refl _) _).trans (h2.mono (by simp)))
       clear h2))
  go_ret
  exact ⟨rfl, H2.out⟩
theorem str_idx (s : ByteArray) (i : Nat) (hi : i < s.size) (W : World) : (Instr.index 9 (.string s) (.int .i64 (i : Int))).run Tryd.prog W = .ok (.int .u8 (((nb s).getD i 0 : Nat) : Int)) W := by
  rw [run_index_string _ _ _ _ _ Tryd.underlying9, dif_pos ⟨by omega, by omega⟩]
  have h2 : i < s.data.size := hi
  have e : s.data[i]? = some s.data[i] := Array.getElem?_eq_getElem h2
  simp [nb, List.getD_eq_getElem?_getD, e]
  rfl
theorem and_last (x b : Nat) (hx : x < 4611686018427387904) (hb : b ≤ 8) : bits .and .i64 (x : Int) ((last b : Nat) : Int) = ((x % 2 ^ b : Nat) : Int) := by
  have h8 : 2 ^ b ≤ 256 := Nat.pow_le_pow_right (n := 2) (by decide) hb
  have hp := Nat.two_pow_pos b
  have o : ∀ y : Nat, y < 4611686018427387904 → (BitVec.ofInt 64 (y : Int)).toNat = y := fun y hy => by rw [BitVec.toNat_ofInt]; omega
  show IntKind.i64.wrap ((BitVec.ofInt 64 (x : Int) &&& BitVec.ofInt 64 ((last b : Nat) : Int)).toNat : Int) = _
  rw [BitVec.toNat_and, o x hx, o (last b) (by unfold last; omega)]
  unfold last
  rw [Nat.and_two_pow_sub_one_eq_mod, IntKind.wrap_i64]
  have := Nat.mod_lt x hp
  omega
theorem mainD_take (b : Nat) (bs : List Nat) (i : Nat) (h : i < bs.length) : mainD b (bs.take (i + 1)) = mainD b (bs.take i) ++ dig b (8 / b) (bs.getD i 0) := by
  rw [List.take_add_one, List.getElem?_eq_getElem h, List.getD_eq_getElem?_getD, List.getElem?_eq_getElem h]
  unfold mainD
  rw [List.flatMap_append]
  simp
theorem csum_app (b : Nat) (l : List Nat) (d : Nat) : csum b (l ++ [d]) = csum b l + (last b - d) := csum_snoc b l d
set_option maxRecDepth 100000 in
set_option maxHeartbeats 4000000 in
theorem digits_ok (b : Nat) (s : ByteArray) (hB : Bits b) (hn : 0 < s.size) (hn2 : s.size ≤ 32) (w : World) :
    Calls Tryd.prog 20 #[.agg #[.int .i64 (b : Int), .int .i64 (s.size : Int)], .string s] w fun e w' => ∃ x L, e = .returned (.tuple #[x, .int .i64 0]) ∧ L = (One.digits b (nb s)).length ∧ w'.ownsRow w.heap.size 3 1 x L (natV (One.digits b (nb s))) ∧ Below w.heap.size w w' := by
  have HV : Hid (decide (VP (b : Int) (s.size : Int)) = true) := Lib.hid (decide_eq_true ⟨by rcases hB with rfl | rfl | rfl | rfl <;> simp, by omega, by omega⟩)
  have HC := Lib.hid (fun w => counts_any b s.size hB hn hn2 w)
  have HLA := Lib.hid (fun w => last_any (b : Int) (s.size : Int) b rfl hB w)
  have HM : Hid (8 * s.size / b ≤ 256 ∧ cnt b (great b s.size) ≤ 13) := Lib.hid ⟨by rcases hB with rfl | rfl | rfl | rfl <;> omega, cnt_le hB (great_le hB hn2)⟩
  have hb8 : b ≤ 8 := by rcases hB with rfl | rfl | rfl | rfl <;> omega
  have hbz : 0 < b := hB.pos
  have HB0 := Lib.hid hB
  have hL : last b ≤ 255 := by rcases hB with rfl | rfl | rfl | rfl <;> decide
  have HAND := Lib.hid (fun x hx => and_last x b hx hb8)
  obtain ⟨L, hLL⟩ := ex_eq (last b)
  rw [hLL] at hL HLA HAND
  have HLL := Lib.hid hLL
  clear hLL
  have HIX := Lib.hid (str_idx s)
  obtain ⟨bs, hbs⟩ := ex_eq (nb s)
  have HBL : Hid (bs.length = s.size) := Lib.hid (by rw [← hbs]; exact nb_length s)
  have HBT : Hid (∀ x ∈ bs, x < 256) := Lib.hid (by rw [← hbs]; exact nb_lt s)
  rw [hbs] at HIX ⊢
  clear hbs hB
  obtain ⟨i0, hi, hz0, hz1, hz2⟩ := info_parts Tryd.info3
  have FI := Lib.hid hi
  have FZ0 := Lib.hid hz0
  have FZ1 := Lib.hid hz1
  have FZ2 := Lib.hid hz2
  clear hi hz0 hz1 hz2
  go_enter Tryd.func20, Tryd.ntmps20
  go_upto_region 1 with fail
  refine wp_over (fun W => Hid (W.heap[w.heap.size]? = some (.cells #[.int .i64 (b : Int), .int .i64 (s.size : Int)] 25 (0, 0))) ∧ Hid (Below w.heap.size w W)) ⟨heap_alloc_new _ _, (Below.refl _ _).alloc (Nat.le_refl _) _⟩ ?_
  rintro W ⟨HG, HB⟩
  obtain ⟨N, hN⟩ := ex_eq w.heap.size
  rw [hN] at HG HB ⊢
  have HN := Lib.hid hN
  clear hN
  have HWN : Hid (N + 1 ≤ W.heap.size) := Lib.hid (Array.getElem?_eq_some_iff.1 HG.out).1
  have HCE : Hid (∀ V, Below (N + 1) W V → V.cell? ⟨N, 0, none⟩ = some (.int .i64 (b : Int)) ∧ V.cell? ⟨N, 1, none⟩ = some (.int .i64 (s.size : Int))) := Lib.hid (fun V h => by
    have hg := (h.block N (Nat.lt_succ_self N)).trans HG.out
    exact ⟨(cell_of_row _ _ _ _ _ _ hg).trans rfl, (cell_of_row _ _ _ _ _ _ hg).trans rfl⟩)
  obtain ⟨c0, c1⟩ := HCE.out W (Below.refl _ _)
  go_upto_region 3 with (first
    | (with_reducible refine (valid_any (b : Int) (s.size : Int) _).mono ?_
       rintro e w2 ⟨rfl, h2⟩
       rw [HV.out]
       have H2 := Lib.hid (h2.mono HWN.out)
       clear h2 c0 c1
       obtain ⟨c0, c1⟩ := HCE.out w2 H2.out))
  go_upto_region 4 with (first
    | (with_reducible refine (HC.out _).mono ?_
       rintro e w3 ⟨m, c, rfl, hm, hc, h3⟩
       have HM1 := Lib.hid hm
       have HC1 := Lib.hid hc
       have hm2 : m ≤ 256 := by rw [hm]; exact HM.out.1
       have hc2 : c ≤ 13 := by rw [hc]; exact HM.out.2
       have H3 := Lib.hid (H2.out.trans (h3.mono (by have := H2.out.size; have := HWN.out; omega)))
       clear h3 hm hc c0 c1))
  go_upto_region 7 with (first
    | (at_make
       refine wpList_make_own _ rfl (.const (.int .i64 0)) (.tmp 31) 27 rfl (N + 1) 3 i0 (.int .i64 0) 1 Tryd.underlying27 FI.out FZ0.out FZ1.out .i64 .i64 ((m : Int) + (c : Int)) (m + c) (by rfl) (by rfl) (by omega) (by rw [FZ2.out]; omega) (by unfold maxLen; omega) (by have := H3.out.size; have := HWN.out; omega) ?_
       intro w4 hown4 hgr4
       have HO4 : Hid (w4.ownsRow (N + 1) 3 1 (.slice (some ⟨w3.heap.size, 0, none⟩) 0 (m + c)) 0 (natV [])) := hown4
       have H4 : Hid (Below (N + 1) W w4) := Lib.hid (H3.out.trans ((Chg.of_grown (M := fun _ _ => False) hgr4 (fun q _ e => by cases e)).below (by have := H3.out.size; have := HWN.out; omega) (fun _ _ _ h => h)))
       clear hown4 hgr4))
  have hJ : (b : Int) * ((8 / b : Nat) : Int) = 8 := by rcases HB0.out with rfl | rfl | rfl | rfl <;> rfl
  obtain ⟨J, hJ8⟩ := ex_eq (8 / b)
  rw [hJ8] at hJ
  have HJ8 := Lib.hid hJ8
  have HJ := Lib.hid hJ
  clear hJ8 hJ
  have HCS : Hid (∀ l : List Nat, csum b l ≤ l.length * 255) := Lib.hid (fun l => by
    have h := csum_le b l
    have h2 : last b ≤ 255 := by rcases HB0.out with rfl | rfl | rfl | rfl <;> decide
    exact Nat.le_trans h (Nat.mul_le_mul_left _ h2))
  have HML : Hid (∀ i, i ≤ s.size → (mainD b (bs.take i)).length ≤ 256) := Lib.hid (fun i hi => by
    rw [mainD_length HB0.out, List.length_take]
    have := HM.out.1
    rcases HB0.out with rfl | rfl | rfl | rfl <;> omega)
  go_loopw [8, 9, 35] (fun x y z wr => ∃ (i : Nat) (cur : List Nat), i ≤ s.size ∧ z = .int .i64 (i : Int) ∧ Hid (cur = mainD b (bs.take i)) ∧ (∃ cs : Nat, y = .int .i64 (cs : Int) ∧ Hid (cs = csum b cur)) ∧ Hid (wr.ownsRow (N + 1) 3 1 x cur.length (natV cur)) ∧ Hid (Below (N + 1) W wr)) (fun _ _ z _ => s.size - (intOf z).toNat)
  case atStart => exact ⟨0, [], by omega, rfl, rfl, ⟨0, rfl, rfl⟩, HO4.out, H4.out⟩
  case round =>
    obtain ⟨i, cur, hi, rfl, HCU, ⟨cs, rfl, HCSU⟩, HOW, HBE⟩ := hrel
    have HCL : Hid (cur.length ≤ 256) := Lib.hid (by rw [HCU.out]; exact HML.out i hi)
    have hcs : cs ≤ 65280 := by rw [HCSU.out]; have := HCS.out cur; have := HCL.out; omega
    rename World => wa
    by_cases hlt : i < s.size
    · obtain ⟨c0, c1⟩ := HCE.out wa HBE.out
      have hix := HIX.out i hlt
      have HCLN : Hid (cur.length + J ≤ 256) := Lib.hid (by
        have h := HML.out (i + 1) hlt
        rw [mainD_take b bs i (by rw [HBL.out]; exact hlt), ← HCU.out, List.length_append, dig_length, HJ8.out] at h
        exact h)
      have hX : bs.getD i 0 < 256 := by
        rw [List.getD_eq_getElem?_getD, List.getElem?_eq_getElem (by rw [HBL.out]; exact hlt)]; exact HBT.out _ (List.getElem_mem _)
      have HMT : Hid (mainD b (bs.take (i + 1)) = cur ++ dig b J (bs.getD i 0)) := Lib.hid (by rw [mainD_take b bs i (by rw [HBL.out]; exact hlt), ← HCU.out, HJ8.out])
      obtain ⟨X, hXX⟩ := ex_eq (bs.getD i 0)
      rw [hXX] at hix hX HMT
      clear hXX
      have hb8i : (b : Int) ≤ 8 := by omega
      go_upto_region 10 with fail
      clear c0 c1
      go_loopw [8, 9, 11] (fun x y z wr => ∃ (j : Nat) (pre : List Nat) (zi : Int), z = .int .i64 zi ∧ j ≤ J ∧ Hid (zi = (b : Int) * (j : Int) - (b : Int)) ∧ Hid (pre ++ dig b j X = dig b J X) ∧ (∃ cs : Nat, y = .int .i64 (cs : Int) ∧ Hid (cs = csum b (cur ++ pre))) ∧ Hid (wr.ownsRow (N + 1) 3 1 x (cur ++ pre).length (natV (cur ++ pre))) ∧ Hid (Below (N + 1) W wr)) (fun _ _ z _ => (intOf z + 8).toNat)
      case atStart => exact ⟨J, [], 8 - (b : Int), rfl, Nat.le_refl _, Lib.hid (by rw [HJ.out]), rfl, ⟨cs, rfl, by rw [List.append_nil]; exact HCSU.out⟩, by rw [List.append_nil]; exact HOW.out, HBE.out⟩
      case round =>
        obtain ⟨j, pre, zi, rfl, hj, HZ, HPR, ⟨cs2, rfl, HCS2⟩, HOW2, HBE2⟩ := hrel
        have HPL : Hid (pre.length + j = J) := Lib.hid (by have := congrArg List.length HPR.out; rw [List.length_append, dig_length, dig_length] at this; exact this)
        have HCL2 : Hid ((cur ++ pre).length ≤ 256) := Lib.hid (by rw [List.length_append]; have := HPL.out; have := HCLN.out; omega)
        have hcs2 : cs2 ≤ 65280 := by rw [HCS2.out]; have := HCS.out (cur ++ pre); have := HCL2.out; omega
        cases j with
        | zero =>
          have hz : zi = -(b : Int) := by have := HZ.out; simp at this; exact this
          subst hz
          have hneg : ¬ (0 : Int) ≤ -(b : Int) := by omega
          have HPR0 : Hid (pre = dig b J X) := Lib.hid (by have h := HPR.out; rw [dig, List.append_nil] at h; exact h)
          go_wp2_with fail
          go_roundw
          case rel =>
            refine ⟨i + 1, cur ++ pre, by omega, by go_num, Lib.hid (by rw [HMT.out, HPR0.out]), ⟨cs2, by go_num, HCS2.out⟩, HOW2.out, HBE2.out⟩
          case measure => simp [intOf]; omega
        | succ j =>
          obtain ⟨q, hq⟩ : ∃ q : Nat, b * j = q := ⟨_, rfl⟩
          have hz : zi = (q : Int) := by rw [HZ.out, ← hq, Int.natCast_mul, Int.natCast_add, Int.mul_add]; simp
          have hq8 : q ≤ 8 := by
            have h1 : (b : Int) * (j : Int) ≤ (b : Int) * (J : Int) := Int.mul_le_mul_of_nonneg_left (by omega) (by omega)
            rw [HJ.out, ← Int.natCast_mul, hq] at h1
            omega
          subst hz
          have HQ := Lib.hid hq
          clear hq
          obtain ⟨c0, c1⟩ := HCE.out wr HBE2.out
          go_upto_region 12 with fail
          refine Kit.wp_region_heads (fun V => V.cell? ⟨N, 0, none⟩ = some (.int .i64 (b : Int)) ∧ V.cell? ⟨N, 1, none⟩ = some (.int .i64 (s.size : Int))) [0, 1, 2, 3, 4, 5, 6] [7, 8, 9] (by kernel_rfl) (by kernel_rfl) (by kernel_rfl) (by kernel_rfl) ⟨c0, c1⟩ ?_
          repeat (refine Kit.heads_cons (by rfl) (.inl ⟨by rfl, fun w' hS => by (dsimp only at hS); go_simp; (try with_reducible rfl)⟩) ?_; simp only [Act.put, List.setIfInBounds_toArray, List.set_cons_zero, List.set_cons_succ])
          refine Kit.heads_nil ?_
          refine Kit.chain_cons (by rfl) rfl fun K hK => ?_
          go_simp
          go_at_call 68
          refine (HLA.out _).mono ?_
          rintro e w5 ⟨rfl, h5⟩
          have HBE5 : Hid (Below (N + 1) W w5) := Lib.hid (HBE2.out.trans ((Below.refl _ wr).drew.trans (h5.mono (by have := HBE2.out.size; have := HWN.out; show N + 1 ≤ wr.heap.size; omega))))
          have HOW5 : Hid (w5.ownsRow (N + 1) 3 1 u8 (cur ++ pre).length (natV (cur ++ pre))) := Lib.hid (ownsRow_keep HOW2.out ((Chg.drew (Chg.refl (fun _ _ => False) _)).trans (Chg.of_below (M := fun _ _ => False) h5)) (fun _ _ _ h => h))
          clear h5 c0 c1
          obtain ⟨c0, c1⟩ := HCE.out w5 HBE5.out
          refine hK _ _ ⟨c0, c1⟩ ?_
          clear hK K
          have hand : bits .and .i64 (IntKind.i64.wrap (X : Int) / 2 ^ q) (L : Int) = ((X / 2 ^ q % 2 ^ b : Nat) : Int) := by
            have e1 : IntKind.i64.wrap (X : Int) = (X : Int) := by rw [IntKind.wrap_i64]; omega
            have e2 : (X : Int) / 2 ^ q = ((X / 2 ^ q : Nat) : Int) := by rw [Int.natCast_ediv, Int.natCast_pow]; rfl
            have e3 : X / 2 ^ q ≤ X := Nat.div_le_self _ _
            rw [e1, e2]
            exact HAND.out _ (by omega)
          have HDD : Hid (dig b (j + 1) X = (X / 2 ^ q % 2 ^ b) :: dig b j X) := Lib.hid (by rw [dig, HQ.out])
          have hD : X / 2 ^ q % 2 ^ b ≤ L := by have := Nat.mod_lt (X / 2 ^ q) (Nat.two_pow_pos b); rw [← HLL.out]; unfold last; omega
          obtain ⟨D, hDe⟩ := ex_eq (X / 2 ^ q % 2 ^ b)
          rw [hDe] at hand HDD hD
          clear hDe
          refine Kit.chain_cons (by rfl) rfl fun K hK => ?_
          go_simp
          refine hK _ _ ⟨c0, c1⟩ ?_
          clear hK K
          refine Kit.chain_cons (by rfl) rfl fun K hK => ?_
          go_simp
          refine hK _ _ ⟨c0, c1⟩ (Kit.chain_done ?_)
          clear hK K hand
          (try simp only [Act.put, List.setIfInBounds_toArray, List.set_cons_zero, List.set_cons_succ])
          go_upto_region 14 with (first
            | (at_builtin
               refine wpList_append_own _ rfl _ _ 27 rfl (N + 1) 3 i0 (.int .i64 0) 1 8 Tryd.underlying27 FI.out FZ0.out FZ1.out FZ2.out rfl (by decide) _ _ _ rfl (HOW5.out.alloc _) ⟨w5.heap.size, 0, none⟩ 1 1 [.int .i64 (D : Int)] rfl rfl (cell_one_new _ _ _) (by simp [Value.oneCell']) (by have := HCL2.out; unfold maxLen; omega) (by have := HCL2.out; omega) (by have := HBE5.out.size; have := HWN.out; simp; omega) ?_
               intro v6 w6 hown6 hgr6 _
               have HO6 : Hid (w6.ownsRow (N + 1) 3 1 v6 ((cur ++ pre).length + 1) (natV (cur ++ pre ++ [D]))) := by rw [natV_app]; exact hown6
               have HC6 : Hid (Chg (fun q _ => N + 1 ≤ q) w5 w6) := (Chg.alloc1 w5 _).trans (Chg.of_grown hgr6 (fun q _ e => (HOW5.out.lt q e).1))
               clear hown6 hgr6))
          have HB6 : Hid (Below (N + 1) W w6) := Lib.hid (HBE5.out.trans (HC6.out.below (by have := HBE5.out.size; have := HWN.out; omega) (fun q i hq h => by omega)))
          clear c0 c1
          obtain ⟨c0, c1⟩ := HCE.out w6 HB6.out
          go_wp2_with (first
            | (with_reducible refine (HLA.out _).mono ?_
               rintro e w7 ⟨rfl, h7⟩
               have H7 := Lib.hid h7
               clear h7 c0 c1
               have HB7 : Hid (Below (N + 1) W w7) := Lib.hid (HB6.out.trans (H7.out.mono (by have := HB6.out.size; have := HWN.out; omega)))
               obtain ⟨c0, c1⟩ := HCE.out w7 HB7.out))
          go_roundw
          case rel =>
            refine ⟨j, pre ++ [D], (q : Int) - (b : Int), by go_num, by omega, Lib.hid (by rw [← HQ.out, Int.natCast_mul]), ?_, ⟨cs2 + (L - D), by go_num, ?_⟩, ?_, HB7.out⟩
            · have h := HPR.out
              rw [HDD.out] at h
              show _ = _
              rw [List.append_assoc]; exact h
            · show _ = _
              rw [← List.append_assoc, csum_app, HCS2.out, HLL.out]
            · have h := ownsRow_keep HO6.out (Chg.of_below (M := fun _ _ => False) H7.out) (fun _ _ _ h => h)
              rw [← List.append_assoc, show (cur ++ pre ++ [D]).length = (cur ++ pre).length + 1 by rw [List.length_append]; rfl]
              exact h
          case measure => simp [intOf]; omega
    · have hie : i = s.size := by omega
      have HFU : Hid (cur = mainD b bs) := Lib.hid (by rw [HCU.out, hie, List.take_of_length_le (by rw [HBL.out]; exact Nat.le_refl _)])
      have HQ12 : Hid (∀ j, j < c → b * j ≤ 12) := Lib.hid (fun j hj => by
        have h1 := (cnt_lt hbz (great_ne HB0.out hn) j).1 (by rw [← HC1.out]; exact hj)
        have h2 := great_le HB0.out hn2
        refine Nat.le_of_not_lt fun h => ?_
        have h3 : 2 ^ 13 ≤ 2 ^ (b * j) := Nat.pow_le_pow_right (by decide) h
        omega)
      clear hie
      go_upto_region 17 with fail
      go_loopw [8, 13] (fun x y wr => ∃ (j : Nat) (pre : List Nat) (yi : Int), y = .int .i64 yi ∧ j ≤ c ∧ Hid (yi = (j : Int) - 1) ∧ Hid (pre ++ dig b j cs = dig b c cs) ∧ Hid (wr.ownsRow (N + 1) 3 1 x (cur ++ pre).length (natV (cur ++ pre))) ∧ Hid (Below (N + 1) W wr)) (fun _ y _ => (intOf y + 1).toNat)
      case atStart => exact ⟨c, [], (c : Int) - 1, rfl, Nat.le_refl _, rfl, rfl, by rw [List.append_nil]; exact HOW.out, HBE.out⟩
      case round =>
        obtain ⟨j, pre, yi, rfl, hj, HY, HPR, HOW2, HBE2⟩ := hrel
        have HPL : Hid (pre.length + j = c) := Lib.hid (by have := congrArg List.length HPR.out; rw [List.length_append, dig_length, dig_length] at this; exact this)
        have HCL2 : Hid ((cur ++ pre).length ≤ 270) := Lib.hid (by rw [List.length_append]; have := HPL.out; have := HCL.out; omega)
        cases j with
        | zero =>
          have hy : yi = -1 := HY.out
          subst hy
          have HFIN : Hid (cur ++ pre = One.digits b bs) := Lib.hid (by
            have h := HPR.out
            rw [dig, List.append_nil] at h
            rw [h, HFU.out, HCSU.out, HFU.out, HC1.out, ← HBL.out]; rfl)
          go_wp2_with fail
          go_ret2
          refine ⟨_, (One.digits b bs).length, rfl, rfl, ?_, ?_⟩
          · rw [← HFIN.out, HN.out]; exact ownsRow_base HOW2.out (Nat.le_succ N)
          · rw [HN.out]; exact HB.out.trans (HBE2.out.mono (Nat.le_succ N))
        | succ j =>
          have hy : yi = (j : Int) := by rw [HY.out]; omega
          subst hy
          obtain ⟨q, hq⟩ : ∃ q : Nat, b * j = q := ⟨_, rfl⟩
          have hq12 : q ≤ 12 := by rw [← hq]; exact HQ12.out j (by omega)
          have hqi : (j : Int) * (b : Int) = (q : Int) := by rw [← Int.natCast_mul, Nat.mul_comm, hq]
          have hwq : IntKind.i64.wrap (q : Int) = (q : Int) := by rw [IntKind.wrap_i64]; omega
          have HQ := Lib.hid hq
          clear hq
          obtain ⟨c0, c1⟩ := HCE.out wr HBE2.out
          go_upto_region 19 with fail
          refine Kit.wp_region_heads (fun V => V.cell? ⟨N, 0, none⟩ = some (.int .i64 (b : Int)) ∧ V.cell? ⟨N, 1, none⟩ = some (.int .i64 (s.size : Int))) [0, 1, 2, 3, 4, 5, 6, 7] [8, 9, 10, 11, 12] (by kernel_rfl) (by kernel_rfl) (by kernel_rfl) (by kernel_rfl) ⟨c0, c1⟩ ?_
          repeat (refine Kit.heads_cons (by rfl) (.inl ⟨by rfl, fun w' hS => by (dsimp only at hS); go_simp; (try with_reducible rfl)⟩) ?_; simp only [Act.put, List.setIfInBounds_toArray, List.set_cons_zero, List.set_cons_succ])
          refine Kit.heads_nil ?_
          refine Kit.chain_cons (by rfl) rfl fun K hK => ?_
          go_simp
          go_at_call 68
          refine (HLA.out _).mono ?_
          rintro e w5 ⟨rfl, h5⟩
          have HBE5 : Hid (Below (N + 1) W w5) := Lib.hid (HBE2.out.trans ((Below.refl _ wr).drew.trans (h5.mono (by have := HBE2.out.size; have := HWN.out; show N + 1 ≤ wr.heap.size; omega))))
          have HOW5 : Hid (w5.ownsRow (N + 1) 3 1 u8 (cur ++ pre).length (natV (cur ++ pre))) := Lib.hid (ownsRow_keep HOW2.out ((Chg.drew (Chg.refl (fun _ _ => False) _)).trans (Chg.of_below (M := fun _ _ => False) h5)) (fun _ _ _ h => h))
          clear h5 c0 c1
          refine hK _ _ (HCE.out w5 HBE5.out) ?_
          clear hK K
          have hand : bits .and .i64 ((cs : Int) / 2 ^ q) (L : Int) = ((cs / 2 ^ q % 2 ^ b : Nat) : Int) := by
            have e2 : (cs : Int) / 2 ^ q = ((cs / 2 ^ q : Nat) : Int) := by rw [Int.natCast_ediv, Int.natCast_pow]; rfl
            have e3 : cs / 2 ^ q ≤ cs := Nat.div_le_self _ _
            rw [e2]
            exact HAND.out _ (by omega)
          have HDD : Hid (dig b (j + 1) cs = (cs / 2 ^ q % 2 ^ b) :: dig b j cs) := Lib.hid (by rw [dig, HQ.out])
          obtain ⟨D, hDe⟩ := ex_eq (cs / 2 ^ q % 2 ^ b)
          rw [hDe] at hand HDD
          clear hDe
          refine Kit.chain_cons (by rfl) rfl fun K hK => ?_
          go_simp
          refine hK _ _ (HCE.out w5 HBE5.out) ?_
          clear hK K hand
          refine Kit.chain_cons (by rfl) rfl fun K hK => ?_
          go_simp
          have HBE6 : Hid (Below (N + 1) W (w5.alloc (.cells #[.int .i64 (D : Int)] 3))) := Lib.hid (HBE5.out.alloc (by have := HBE5.out.size; have := HWN.out; omega) _)
          refine hK _ _ (HCE.out _ HBE6.out) ?_
          clear hK K
          refine Kit.chain_cons (by rfl) rfl fun K hK => ?_
          refine wp_append_src (.tmp 73) (.tmp 83) 27 (by rfl) (N + 1) 3 i0 (.int .i64 0) 1 8 Tryd.underlying27 FI.out FZ0.out FZ1.out FZ2.out rfl (by decide) u8 (cur ++ pre).length (natV (cur ++ pre)) (by rfl) (HOW5.out.alloc _) (some ⟨w5.heap.size, 0, none⟩) 1 1 [.int .i64 (D : Int)] (by rfl) (.inr ⟨rfl, _, rfl, cell_one_new _ _ _⟩) (by simp [Value.oneCell']) (by have := HCL2.out; unfold maxLen; omega) (by have := HCL2.out; omega) (by have := HBE5.out.size; have := HWN.out; simp; omega) ?_
          intro v6 w6 hown6 hgr6
          have HO6 : Hid (w6.ownsRow (N + 1) 3 1 v6 ((cur ++ pre).length + 1) (natV (cur ++ pre ++ [D]))) := by rw [natV_app]; exact hown6
          have HC6 : Hid (Chg (fun q _ => N + 1 ≤ q) w5 w6) := (Chg.alloc1 w5 _).trans (Chg.of_grown hgr6 (fun q _ e => (HOW5.out.lt q e).1))
          clear hown6 hgr6
          have HB6 : Hid (Below (N + 1) W w6) := Lib.hid (HBE5.out.trans (HC6.out.below (by have := HBE5.out.size; have := HWN.out; omega) (fun q i hq h => by omega)))
          refine hK _ _ (HCE.out _ HB6.out) ?_
          clear hK K
          simp only [Act.put, List.setIfInBounds_toArray, List.set_cons_zero, List.set_cons_succ]
          refine Kit.chain_cons (by rfl) rfl fun K hK => ?_
          go_simp
          refine hK _ _ (HCE.out _ HB6.out) (Kit.chain_done ?_)
          clear hK K
          (try simp only [Act.put, List.setIfInBounds_toArray, List.set_cons_zero, List.set_cons_succ])
          go_wp2_with fail
          go_roundw
          case rel =>
            refine ⟨j, pre ++ [D], (j : Int) - 1, by go_num, by omega, rfl, ?_, ?_, HB6.out⟩
            · have h := HPR.out
              rw [HDD.out] at h
              show _ = _
              rw [List.append_assoc]; exact h
            · rw [← List.append_assoc, show (cur ++ pre ++ [D]).length = (cur ++ pre).length + 1 by rw [List.length_append]; rfl]
              exact HO6.out
          case measure => simp [intOf]
theorem digits_bad (B S : Int) (s : ByteArray) (hV : ¬ (VP B S ∧ (s.size : Int) = S)) (w : World) :
    Calls Tryd.prog 20 #[.agg #[.int .i64 B, .int .i64 S], .string s] w fun e w' => e = .returned (.tuple #[.slice none 0 0, .int .i64 1]) ∧ Below w.heap.size w w' := by
  by_cases hP : VP B S
  · have hne : ((s.size : Int) != S) = true := by rw [bne_iff_ne]; exact fun e => hV ⟨hP, e⟩
    have HV : Hid (decide (VP B S) = true) := Lib.hid (decide_eq_true hP)
    clear hV hP
    go_enter Tryd.func20, Tryd.ntmps20
    go_upto_region 1 with fail
    refine wp_over (fun W => Hid (W.heap[w.heap.size]? = some (.cells #[.int .i64 B, .int .i64 S] 25 (0, 0))) ∧ Hid (Below w.heap.size w W)) ⟨heap_alloc_new _ _, (Below.refl _ _).alloc (Nat.le_refl _) _⟩ ?_
    rintro W ⟨HG, HB⟩
    have c0 : W.cell? ⟨w.heap.size, 0, none⟩ = some (.int .i64 B) := (cell_of_row _ _ _ _ _ _ HG.out).trans rfl
    have c1 : W.cell? ⟨w.heap.size, 1, none⟩ = some (.int .i64 S) := (cell_of_row _ _ _ _ _ _ HG.out).trans rfl
    go_wp2_with (first
      | (with_reducible refine (valid_any B S _).mono ?_
         rintro e w2 ⟨rfl, h2⟩
         rw [HV.out]
         have H2 : Hid (Below w.heap.size w w2) := Lib.hid (HB.out.trans (h2.mono HB.out.size))
         have d1 : w2.cell? ⟨w.heap.size, 1, none⟩ = some (.int .i64 S) := (h2.cell (World.block_lt_of_cell? W _ c1)).trans c1
         clear h2 c0 c1))
    go_ret2
    exact ⟨rfl, H2.out⟩
  · have HV : Hid (decide (VP B S) = false) := Lib.hid (decide_eq_false hP)
    clear hV hP
    go_enter Tryd.func20, Tryd.ntmps20
    go_wp2_with (first
      | (with_reducible refine (valid_any B S _).mono ?_
         rintro e w2 ⟨rfl, h2⟩
         rw [HV.out]
         have H2 : Hid (Below w.heap.size w w2) := Lib.hid (((Below.refl _ w).alloc (Nat.le_refl _) _).trans (h2.mono (by simp)))
         clear h2))
    go_ret2
    exact ⟨rfl, H2.out⟩
end Go.Proofs.YtmnendoloankgaaDoor
