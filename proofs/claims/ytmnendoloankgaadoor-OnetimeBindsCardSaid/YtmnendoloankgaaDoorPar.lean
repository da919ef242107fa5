/- onetime: parameters. -/
import Derived.Test.YtmnendoloankgaaDoorWire
namespace Go.Proofs.YtmnendoloankgaaDoor
set_option linter.unusedVariables false
set_option linter.unusedSimpArgs false
open Go.RowKit
open Kit (Chg)
open Sha (v)
open Go.Proofs.YtmnendoloankgaaDoor.One

/-- Valid parameters. -/
def VP (B S : Int) : Prop := (B = 1 ∨ B = 2 ∨ B = 4 ∨ B = 8) ∧ 1 ≤ S ∧ S ≤ 32
instance (B S : Int) : Decidable (VP B S) := by unfold VP; infer_instance
theorem isSum_any (s : ByteArray) (w : World) : Calls Tryd.prog 71 #[.string s] w fun e w' => e = .returned (.bool (decide (s.size = 32))) ∧ w = w' := by
  have e : ((s.size : Int) == 32) = decide (s.size = 32) := by
    rw [Bool.eq_iff_iff, beq_iff_eq, decide_eq_true_eq]; omega
  go_enter Tryd.func71, Tryd.ntmps71
  go_wp2
  go_ret
  exact ⟨by first | rfl | (rw [← e]; rfl) | simp [e], rfl⟩
theorem validChain_any (c : Int) (w : World) : Calls Tryd.prog 72 #[.int .i64 c] w fun e w' => e = .returned (.bool (decide (0 ≤ c ∧ c ≤ 999))) ∧ w = w' := by
  go_enter Tryd.func72, Tryd.ntmps72
  by_cases h0 : 0 ≤ c
  · by_cases h1 : c ≤ 999
    · go_wp2
      go_ret
      refine ⟨?_, rfl⟩
      rw [decide_eq_true ⟨h0, h1⟩]
      rfl
    · go_wp2
      go_ret
      refine ⟨?_, rfl⟩
      rw [decide_eq_false (fun h => by omega)]
      rfl
  · go_wp2
    go_ret
    refine ⟨?_, rfl⟩
    rw [decide_eq_false (fun h => by omega)]
    rfl
theorem last_any (B S : Int) (b : Nat) (hb : B = (b : Int)) (hB : Bits b) (w : World) : Calls Tryd.prog 68 #[.agg #[.int .i64 B, .int .i64 S]] w fun e w' => e = .returned (.int .i64 (last b : Int)) ∧ Below w.heap.size w w' := by
  subst hb
  rcases hB with rfl | rfl | rfl | rfl
  all_goals
    go_enter Tryd.func68, Tryd.ntmps68
    go_wp2
    go_ret
    exact ⟨by rfl, (Below.refl _ _).alloc (Nat.le_refl _) _⟩
theorem idx4 (k : Nat) (h : k < 4) (W : World) : (Instr.index 91 (.agg #[.int .i64 1, .int .i64 2, .int .i64 4, .int .i64 8]) (.int .i64 (k : Int))).run Tryd.prog W = .ok (.int .i64 ([1, 2, 4, 8].getD k (0 : Int))) W := by
  have hu : Tryd.prog.underlying 91 = some (.array 4 3) := Tryd.underlying91
  have hk : (0 : Int) ≤ (k : Int) ∧ (k : Int) < (4 : Nat) := by omega
  simp [Instr.index, run_underlying hu, asIntOf, hk, go_sem]
  match k, h with
  | 0, _ => rfl
  | 1, _ => rfl
  | 2, _ => rfl
  | 3, _ => rfl
set_option maxRecDepth 100000 in
set_option maxHeartbeats 1000000 in
theorem valid_any (B S : Int) (w : World) : Calls Tryd.prog 23 #[.agg #[.int .i64 B, .int .i64 S]] w fun e w' => e = .returned (.bool (decide (VP B S))) ∧ Below w.heap.size w w' := by
  by_cases h1 : 1 ≤ S
  · by_cases h2 : S ≤ 32
    · go_enter Tryd.func23, Tryd.ntmps23
      go_upto_region 3 with fail
      refine wp_over (fun W => Hid (W.heap[w.heap.size]? = some (.cells #[.int .i64 B, .int .i64 S] 25 (0, 0))) ∧ Hid (Below w.heap.size w W)) ⟨heap_alloc_new _ _, (Below.refl _ _).alloc (Nat.le_refl _) _⟩ ?_
      rintro W ⟨HG, HB⟩
      obtain ⟨N, hN⟩ := ex_eq w.heap.size
      rw [hN] at HG HB ⊢
      have HN := Lib.hid hN
      clear hN
      have c0 : W.cell? ⟨N, 0, none⟩ = some (.int .i64 B) := (cell_of_row _ _ _ _ _ _ HG.out).trans rfl
      have c1 : W.cell? ⟨N, 1, none⟩ = some (.int .i64 S) := (cell_of_row _ _ _ _ _ _ HG.out).trans rfl
      go_wp2_with fail
      go_loopw [14] (fun x wr => ∃ k : Nat, k ≤ 4 ∧ x = .int .i64 (k : Int) ∧ wr = W ∧ Hid (∀ j, j < k → B ≠ [1, 2, 4, 8].getD j 0)) (fun x _ => 4 - (intOf x).toNat)
      case atStart => exact ⟨0, by omega, rfl, rfl, fun j h => by omega⟩
      case round =>
        obtain ⟨k, hk, rfl, rfl, HNE⟩ := hrel
        by_cases hlt : k < 4
        · have hki : (k : Int) < 4 := by omega
          have hidx := idx4 k hlt
          have HX4 : Hid (∀ X : Int, [1, 2, 4, 8].getD k (0 : Int) = X → X = 1 ∨ X = 2 ∨ X = 4 ∨ X = 8) := Lib.hid (by
            rintro X rfl
            match k, hlt with
            | 0, _ => decide
            | 1, _ => decide
            | 2, _ => decide
            | 3, _ => decide)
          obtain ⟨X, hX⟩ := ex_eq ([1, 2, 4, 8].getD k (0 : Int))
          rw [hX] at hidx
          have HX := Lib.hid hX
          clear hX
          by_cases hb : B = X
          · go_wp2_with fail
            go_ret
            refine ⟨?_, by rw [HN.out]; exact HB.out⟩
            rw [show decide (VP B S) = true from decide_eq_true ⟨by rw [hb]; exact HX4.out X HX.out, h1, h2⟩]
            rfl
          · go_wp2_with fail
            go_roundw
            case rel =>
              refine ⟨k + 1, by omega, by go_num, trivial, fun j hj => ?_⟩
              by_cases e : j = k
              · subst e; rw [HX.out]; exact hb
              · exact HNE.out j (by omega)
            case measure => simp [intOf]; omega
        · have e4 : k = 4 := by omega
          subst e4
          rw [show (((4 : Nat)) : Int) = 4 from rfl]
          have n0 := HNE.out 0 (by decide)
          have n1 := HNE.out 1 (by decide)
          have n2 := HNE.out 2 (by decide)
          have n3 := HNE.out 3 (by decide)
          have HF : Hid (decide (VP B S) = false) := Lib.hid (decide_eq_false (fun h => by
            rcases h.1 with e | e | e | e
            · exact n0 e
            · exact n1 e
            · exact n2 e
            · exact n3 e))
          clear n0 n1 n2 n3 HNE
          go_wp2_with fail
          go_ret
          refine ⟨?_, by rw [HN.out]; exact HB.out⟩
          rw [HF.out]
          rfl
    · go_enter Tryd.func23, Tryd.ntmps23
      go_wp2
      go_ret
      refine ⟨?_, (Below.refl _ _).alloc (Nat.le_refl _) _⟩
      rw [show decide (VP B S) = false from decide_eq_false (fun h => by have := h.2.2; omega)]
      rfl
  · go_enter Tryd.func23, Tryd.ntmps23
    go_wp2
    go_ret
    refine ⟨?_, (Below.refl _ _).alloc (Nat.le_refl _) _⟩
    rw [show decide (VP B S) = false from decide_eq_false (fun h => by have := h.2.1; omega)]
    rfl
theorem cnt_pow {b g : Nat} (hB : Bits b) (hg : g ≠ 0) (hg2 : g ≤ 8160) (c : Nat) (hc : c ≤ cnt b g) : 2 ^ (b * c) ≤ 2088960 := by
  have hb8 : 2 ^ b ≤ 256 := by rcases hB with rfl | rfl | rfl | rfl <;> decide
  by_cases h : c < cnt b g
  · have := (cnt_lt hB.pos hg c).1 h
    omega
  · by_cases h0 : c = 0
    · subst h0; simp
    · have h1 := (cnt_lt hB.pos hg (c - 1)).1 (by omega)
      obtain ⟨d, rfl⟩ : ∃ d, c = d + 1 := ⟨c - 1, by omega⟩
      rw [Nat.add_sub_cancel] at h1
      rw [Nat.mul_add, Nat.mul_one, Nat.pow_add]
      calc 2 ^ (b * d) * 2 ^ b ≤ 8160 * 256 := Nat.mul_le_mul (by omega) hb8
        _ ≤ 2088960 := by decide
theorem great_le {b n : Nat} (hB : Bits b) (hn : n ≤ 32) : great b n ≤ 8160 := by
  unfold great last
  rcases hB with rfl | rfl | rfl | rfl <;> omega
theorem cnt_le {b g : Nat} (hB : Bits b) (hg2 : g ≤ 8160) : cnt b g ≤ 13 := by
  have h0 := hB.pos
  unfold cnt
  have h : g.log2 ≤ 12 := by
    by_cases hg : g = 0
    · subst hg; decide
    · have h2 := Nat.log2_self_le hg
      refine Nat.le_of_not_lt fun h => ?_
      have : 2 ^ 13 ≤ 2 ^ g.log2 := Nat.pow_le_pow_right (by decide) h
      omega
  have : g.log2 / b ≤ g.log2 := Nat.div_le_self _ _
  omega
set_option maxRecDepth 100000 in
set_option maxHeartbeats 2000000 in
theorem counts_any (b n : Nat) (hB : Bits b) (hn : 0 < n) (hn2 : n ≤ 32) (w : World) : Calls Tryd.prog 67 #[.agg #[.int .i64 (b : Int), .int .i64 (n : Int)]] w fun e w' => ∃ m c : Nat, e = .returned (.tuple #[.int .i64 (m : Int), .int .i64 (c : Int)]) ∧ m = 8 * n / b ∧ c = cnt b (great b n) ∧ Below w.heap.size w w' := by
  have HGR : Hid (8 * n / b * last b = great b n) := rfl
  have hg2 := great_le hB hn2
  have hg0 := great_ne hB hn
  have HCP := Lib.hid (cnt_pow hB hg0 hg2)
  have HCL := Lib.hid (cnt_lt hB.pos hg0)
  have HC13 := Lib.hid (cnt_le hB hg2)
  have HPS : Hid (∀ c, 2 ^ (b * (c + 1)) = 2 ^ (b * c) * 2 ^ b) := Lib.hid (fun c => by rw [Nat.mul_add, Nat.mul_one, Nat.pow_add])
  obtain ⟨m, hm⟩ := ex_eq (8 * n / b)
  obtain ⟨g, hg⟩ := ex_eq (great b n)
  rw [hm, hg] at HGR
  rw [hg] at hg2 HCP HCL HC13 ⊢
  rw [hm]
  have HM := Lib.hid hm
  have hm2 : m ≤ 256 := by rcases hB with rfl | rfl | rfl | rfl <;> omega
  clear hm hg hg0
  obtain ⟨C, hC⟩ := ex_eq (cnt b g)
  rw [hC] at HCP HCL HC13 ⊢
  clear hC
  have HB0 := Lib.hid hB
  have hdiv : 8 * n / b = m := HM.out
  have hidiv : (8 * (n : Int)).tdiv (b : Int) = (m : Int) := by
    rw [Int.tdiv_eq_ediv_of_nonneg (by omega), ← hdiv]
    rw [Int.natCast_ediv, Int.natCast_mul]; rfl
  have hbz : ¬ b = 0 := by have := hB.pos; omega
  have hb8 : b ≤ 8 := by rcases hB with rfl | rfl | rfl | rfl <;> omega
  have HL := Lib.hid (fun w => last_any (b : Int) (n : Int) b rfl hB w)
  obtain ⟨L, hL⟩ := ex_eq (last b)
  rw [hL] at HL HGR
  clear hdiv hB hL
  have hmg : (m : Int) * (L : Int) = (g : Int) := by rw [← Int.natCast_mul, HGR.out]
  go_enter Tryd.func67, Tryd.ntmps67
  go_upto_region 1 with fail
  refine wp_over (fun W => Hid (W.heap[w.heap.size]? = some (.cells #[.int .i64 (b : Int), .int .i64 (n : Int)] 25 (0, 0))) ∧ Hid (Below w.heap.size w W)) ⟨heap_alloc_new _ _, (Below.refl _ _).alloc (Nat.le_refl _) _⟩ ?_
  rintro W ⟨HG, HB⟩
  obtain ⟨N, hN⟩ := ex_eq w.heap.size
  rw [hN] at HG HB ⊢
  have HN := Lib.hid hN
  clear hN
  have c0 : W.cell? ⟨N, 0, none⟩ = some (.int .i64 (b : Int)) := (cell_of_row _ _ _ _ _ _ HG.out).trans rfl
  have c1 : W.cell? ⟨N, 1, none⟩ = some (.int .i64 (n : Int)) := (cell_of_row _ _ _ _ _ _ HG.out).trans rfl
  go_upto_region 2 with fail
  go_upto_region 3 with (first
    | (with_reducible refine (HL.out _).mono ?_
       rintro e w2 ⟨rfl, h2⟩
       have H2 := Lib.hid h2
       clear h2))
  have d0 : w2.cell? ⟨N, 0, none⟩ = some (.int .i64 (b : Int)) := (H2.out.cell (World.block_lt_of_cell? W _ c0)).trans c0
  have HB2 : Hid (Below N w w2) := Lib.hid (HB.out.trans (H2.out.mono (by have := World.block_lt_of_cell? W _ c0; exact Nat.le_of_lt this)))
  clear c0 c1 hmg hidiv
  go_wp2_with fail
  go_loopw [6, 7] (fun x y wr => ∃ c : Nat, c ≤ C ∧ x = .int .i64 (c : Int) ∧ y = .int .i64 ((2 ^ (b * c) : Nat) : Int) ∧ wr = w2) (fun x _ _ => C - (intOf x).toNat)
  case atStart => exact ⟨0, Nat.zero_le _, rfl, by simp, rfl⟩
  case round =>
    obtain ⟨c, hc, rfl, rfl, rfl⟩ := hrel
    have hp := HCP.out c hc
    have hp2 := HPS.out c
    have hlt := HCL.out c
    obtain ⟨P, hP⟩ := ex_eq (2 ^ (b * c))
    rw [hP] at hp hp2 hlt ⊢
    have HP2 := Lib.hid hp2
    clear hp2 hP
    by_cases h : c < C
    · have hpi : (P : Int) ≤ (g : Int) := by have := hlt.1 h; omega
      clear hlt
      have hP2 : (P : Int) * 2 ^ b = ((2 ^ (b * (c + 1)) : Nat) : Int) := by rw [HP2.out, Int.natCast_mul, Int.natCast_pow]; rfl
      have hp3 := HCP.out (c + 1) h
      have hc13 : c + 1 ≤ 13 := by have := HC13.out; omega
      obtain ⟨P2, hPP⟩ := ex_eq (2 ^ (b * (c + 1)))
      rw [hPP] at hP2 hp3
      have HPP := Lib.hid hPP
      clear hPP
      go_wp2_with fail
      go_roundw
      case rel => exact ⟨c + 1, h, by go_num, by rw [HPP.out], trivial⟩
      case measure => simp [intOf]; omega
    · have hpi : ¬ (P : Int) ≤ (g : Int) := by have : ¬ P ≤ g := fun e => h (hlt.2 e); omega
      clear hlt
      go_wp2_with fail
      go_ret2
      exact ⟨m, c, rfl, rfl, by have := HC13.out; omega, by rw [HN.out]; exact HB2.out⟩
end Go.Proofs.YtmnendoloankgaaDoor
