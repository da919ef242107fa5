/- The document's answer for digits: Base, Main, Check, Bit, Digits. -/
import Derived.Test.YtmnendoloankgaaDoorAwa
namespace Go.Proofs.YtmnendoloankgaaDoor
set_option linter.unusedVariables false
set_option linter.unusedSimpArgs false
open Go.RowKit
open Kit (Chg)
open Sha (v)
open Go.Proofs.YtmnendoloankgaaDoor.One

theorem dig_getD (b : Nat) : ∀ c s t, t < c → (dig b c s).getD t 0 = s / 2 ^ (b * (c - 1 - t)) % 2 ^ b
  | 0, _, _, h => by omega
  | c + 1, s, 0, _ => by rw [dig, List.getD_cons_zero]; rfl
  | c + 1, s, t + 1, h => by
    rw [dig, List.getD_cons_succ, dig_getD b c s t (by omega)]
    rw [show c - 1 - t = c + 1 - 1 - (t + 1) by omega]
theorem mainD_getD (b : Nat) : ∀ (bs : List Nat) (B t : Nat), B < bs.length → t < 8 / b → (mainD b bs).getD (8 / b * B + t) 0 = bs.getD B 0 / 2 ^ (b * (8 / b - 1 - t)) % 2 ^ b
  | [], B, t, h, _ => by simp at h
  | x :: bs, 0, t, _, ht => by
    unfold mainD
    rw [List.flatMap_cons, Nat.mul_zero, Nat.zero_add, getD_app_l _ _ _ (by rw [dig_length]; exact ht), dig_getD b _ x t ht, List.getD_cons_zero]
  | x :: bs, B + 1, t, h, ht => by
    have ih := mainD_getD b bs B t (by simpa using h) ht
    unfold mainD at ih ⊢
    rw [List.flatMap_cons, show 8 / b * (B + 1) + t = (dig b (8 / b) x).length + (8 / b * B + t) by rw [dig_length, Nat.mul_add, Nat.mul_one]; omega, getD_app_r, ih, List.getD_cons_succ]
theorem bit_of (y b j : Nat) (h : j < b) : y % 2 ^ b / 2 ^ j % 2 = y / 2 ^ j % 2 := by
  have e : 2 ^ b = 2 ^ j * 2 ^ (b - j) := by rw [← Nat.pow_add, show j + (b - j) = b by omega]
  rw [e, Nat.mod_mul_right_div_self]
  exact Nat.mod_mod_of_dvd _ (by rw [show b - j = (b - j - 1) + 1 by omega, Nat.pow_succ]; exact Nat.dvd_mul_left ..)
/-- The bit of a digest with an index. -/
def bitAt (bs : List Nat) (i : Nat) : Nat := bs.getD (i / 8) 0 / 2 ^ (7 - i % 8) % 2
theorem bit_main {b : Nat} (hB : Bits b) (bs : List Nat) (i k : Nat) (hi : i < 8 * bs.length / b) (hk : k < b) : bitAt bs (i * b + k) = (mainD b bs).getD i 0 / 2 ^ (b - 1 - k) % 2 := by
  have h8 : b * (8 / b) = 8 := by rcases hB with rfl | rfl | rfl | rfl <;> rfl
  have hb := hB.pos
  have hJ : 0 < 8 / b := by rcases hB with rfl | rfl | rfl | rfl <;> decide
  have hib : i * b + b ≤ 8 * bs.length := by
    have h1 : (i + 1) * b ≤ 8 * bs.length := by
      calc (i + 1) * b ≤ 8 * bs.length / b * b := Nat.mul_le_mul_right _ hi
        _ ≤ 8 * bs.length := Nat.div_mul_le_self _ _
    rw [Nat.add_mul, Nat.one_mul] at h1
    exact h1
  have e1 : i = 8 / b * (i / (8 / b)) + i % (8 / b) := (Nat.div_add_mod _ _).symm
  have ht := Nat.mod_lt i hJ
  obtain ⟨B, hBe⟩ : ∃ B, i / (8 / b) = B := ⟨_, rfl⟩
  obtain ⟨t, hte⟩ : ∃ t, i % (8 / b) = t := ⟨_, rfl⟩
  rw [hBe, hte] at e1
  rw [hte] at ht
  have e2 : i * b = 8 * B + t * b := by
    rw [e1, Nat.add_mul]
    have : 8 / b * B * b = b * (8 / b) * B := by rw [Nat.mul_comm b, Nat.mul_assoc, Nat.mul_assoc, Nat.mul_comm B b]
    rw [this, h8]
  have htb : t * b + b ≤ 8 := by
    have : (t + 1) * b ≤ 8 / b * b := Nat.mul_le_mul_right _ ht
    rw [Nat.mul_comm (8 / b), h8, Nat.add_mul, Nat.one_mul] at this
    exact this
  have hBl : B < bs.length := by omega
  have e3 : (i * b + k) / 8 = B := by omega
  have e4 : (i * b + k) % 8 = t * b + k := by omega
  unfold bitAt
  rw [e3, e4, e1, mainD_getD b bs B t hBl ht, bit_of _ b (b - 1 - k) (by omega), Nat.div_div_eq_div_mul, ← Nat.pow_add]
  congr 3
  have e5 : b * (8 / b - 1 - t) = 8 - b - t * b := by
    rw [Nat.mul_sub, Nat.mul_sub, h8, Nat.mul_one, Nat.mul_comm b t]
  rw [e5]
  omega
/-- One more bit of a number. -/
theorem top_bits (D b k : Nat) (hk : k < b) : 2 * (D / 2 ^ (b - k)) + D / 2 ^ (b - 1 - k) % 2 = D / 2 ^ (b - (k + 1)) := by
  have e : 2 ^ (b - k) = 2 ^ (b - (k + 1)) * 2 := by rw [← Nat.pow_succ]; congr 1; omega
  rw [e, ← Nat.div_div_eq_div_mul, show b - 1 - k = b - (k + 1) by omega]
  omega
theorem base_any (b n : Nat) (hB : Bits b) (w : World) : Calls Tryd.prog 69 #[.agg #[.int .i64 (b : Int), .int .i64 (n : Int)]] w fun e w' => e = .returned (.int .i64 ((2 ^ b : Nat) : Int)) ∧ Below w.heap.size w w' := by
  rcases hB with rfl | rfl | rfl | rfl
  all_goals
    go_enter Tryd.func69, Tryd.ntmps69
    go_wp2
    go_ret
    exact ⟨by rfl, (Below.refl _ _).alloc (Nat.le_refl _) _⟩
theorem main_any (b n : Nat) (hB : Bits b) (hn2 : n ≤ 32) (w : World) : Calls Tryd.prog 25 #[.agg #[.int .i64 (b : Int), .int .i64 (n : Int)]] w fun e w' => ∃ m : Nat, e = .returned (.int .i64 (m : Int)) ∧ m = 8 * n / b ∧ Below w.heap.size w w' := by
  have hbz : ¬ b = 0 := by have := hB.pos; omega
  have hb8 : b ≤ 8 := by rcases hB with rfl | rfl | rfl | rfl <;> omega
  obtain ⟨m, hm⟩ := ex_eq (8 * n / b)
  have hm2 : m ≤ 256 := by rw [← hm]; rcases hB with rfl | rfl | rfl | rfl <;> omega
  have hidiv : (8 * (n : Int)).tdiv (b : Int) = (m : Int) := by
    rw [Int.tdiv_eq_ediv_of_nonneg (by omega), ← hm]
    rw [Int.natCast_ediv, Int.natCast_mul]; rfl
  have HM := Lib.hid hm
  clear hm hB
  go_enter Tryd.func25, Tryd.ntmps25
  go_wp2
  go_ret
  exact ⟨m, rfl, HM.out.symm, (Below.refl _ _).alloc (Nat.le_refl _) _⟩
set_option maxRecDepth 100000 in
set_option maxHeartbeats 2000000 in
theorem check_any (b n : Nat) (hB : Bits b) (hn : 0 < n) (hn2 : n ≤ 32) (w : World) : Calls Tryd.prog 26 #[.agg #[.int .i64 (b : Int), .int .i64 (n : Int)]] w fun e w' => ∃ c : Nat, e = .returned (.int .i64 (c : Int)) ∧ c = cnt b (great b n) ∧ Below w.heap.size w w' := by
  have hg2 := great_le hB hn2
  have hg0 := great_ne hB hn
  have HCP := Lib.hid (cnt_pow hB hg0 hg2)
  have HCL := Lib.hid (cnt_lt hB.pos hg0)
  have HC13 := Lib.hid (cnt_le hB hg2)
  have hC1 : 1 ≤ cnt b (great b n) := by unfold cnt; exact Nat.succ_le_succ (Nat.zero_le _)
  have HPS : Hid (∀ c, 2 ^ (b * (c + 1)) = 2 ^ (b * c) * 2 ^ b) := Lib.hid (fun c => by rw [Nat.mul_add, Nat.mul_one, Nat.pow_add])
  have HBA := Lib.hid (fun w => base_any b n hB w)
  have HMA := Lib.hid (fun w => main_any b n hB hn2 w)
  have HGR : Hid (8 * n / b * (2 ^ b - 1) = great b n) := rfl
  have hP : 2 ^ b ≤ 256 := by rcases hB with rfl | rfl | rfl | rfl <;> decide
  have hP1 : 1 ≤ 2 ^ b := Nat.two_pow_pos b
  have HM2 : Hid (8 * n / b ≤ 256) := Lib.hid (by rcases hB with rfl | rfl | rfl | rfl <;> omega)
  obtain ⟨g, hg⟩ := ex_eq (great b n)
  rw [hg] at hg2 HCP HCL HC13 HGR hC1 ⊢
  obtain ⟨C, hC⟩ := ex_eq (cnt b g)
  rw [hC] at HCP HCL HC13 hC1 ⊢
  obtain ⟨P, hPe⟩ := ex_eq (2 ^ b)
  have HPE := Lib.hid hPe
  rw [hPe] at HBA HGR hP hP1
  clear hC hg hg0 hB hn hn2 hPe
  go_enter Tryd.func26, Tryd.ntmps26
  go_upto_region 1 with fail
  refine wp_over (fun W => Hid (W.heap[w.heap.size]? = some (.cells #[.int .i64 (b : Int), .int .i64 (n : Int)] 23 (0, 0))) ∧ Hid (Below w.heap.size w W)) ⟨heap_alloc_new _ _, (Below.refl _ _).alloc (Nat.le_refl _) _⟩ ?_
  rintro W ⟨HG, HB⟩
  obtain ⟨N, hN⟩ := ex_eq w.heap.size
  rw [hN] at HG HB ⊢
  have HN := Lib.hid hN
  clear hN
  have HWN : Hid (N + 1 ≤ W.heap.size) := Lib.hid (Array.getElem?_eq_some_iff.1 HG.out).1
  have HCE : Hid (∀ V, Below (N + 1) W V → V.cell? ⟨N, 0, none⟩ = some (.int .i64 (b : Int)) ∧ V.cell? ⟨N, 1, none⟩ = some (.int .i64 (n : Int))) := Lib.hid (fun V h => by
    have hg := (h.block N (Nat.lt_succ_self N)).trans HG.out
    exact ⟨(cell_of_row _ _ _ _ _ _ hg).trans rfl, (cell_of_row _ _ _ _ _ _ hg).trans rfl⟩)
  have HST : Hid (∀ V V', Below (N + 1) W V → Below V.heap.size V V' → Below (N + 1) W V') := Lib.hid (fun V V' h h' => h.trans (h'.mono (by have := h.size; have := HWN.out; omega)))
  obtain ⟨c0, c1⟩ := HCE.out W (Below.refl _ _)
  go_upto_region 2 with (first
    | (with_reducible refine (HBA.out _).mono ?_
       rintro e w1 ⟨rfl, h1⟩
       have H1 := Lib.hid (HST.out _ _ (Below.refl _ _) h1)
       clear h1 c0 c1))
  go_loopw [3, 4] (fun x y wr => ∃ c : Nat, 1 ≤ c ∧ c ≤ C ∧ x = .int .i64 (c : Int) ∧ (∃ q : Nat, y = .int .i64 (q : Int) ∧ Hid (q = 2 ^ (b * c))) ∧ Hid (Below (N + 1) W wr)) (fun x _ _ => C - (intOf x).toNat)
  case atStart => exact ⟨1, Nat.le_refl _, hC1, rfl, ⟨P, rfl, by show _ = _; rw [← HPE.out, Nat.mul_one]⟩, H1.out⟩
  case round =>
    obtain ⟨c, hc1, hc, rfl, ⟨q, rfl, HQ⟩, HBE⟩ := hrel
    have hq2 : q ≤ 2088960 := by rw [HQ.out]; exact HCP.out c hc
    have hqg : q ≤ g ↔ c < C := by rw [HQ.out]; exact (HCL.out c).symm
    have HQG := Lib.hid hqg
    clear hqg
    rename World => wa
    obtain ⟨c0, c1⟩ := HCE.out wa HBE.out
    go_upto_region 2 with fail
    refine Kit.wp_region_plan (fun X => X.cell? ⟨N, 0, none⟩ = some (.int .i64 (b : Int)) ∧ X.cell? ⟨N, 1, none⟩ = some (.int .i64 (n : Int))) [(true, 0), (true, 1), (true, 3), (false, 2), (false, 4), (true, 5), (true, 6), (true, 7)] (by kernel_rfl) (by kernel_rfl) (by kernel_rfl) (by kernel_rfl) ⟨c0, c1⟩ ?_
    repeat (refine Kit.plan_head (by rfl) (.inl ⟨by rfl, fun w' hS => by (dsimp only at hS); go_simp; (try with_reducible rfl)⟩) ?_; simp only [Act.put, List.setIfInBounds_toArray, List.set_cons_zero, List.set_cons_succ])
    refine Kit.plan_op (by rfl) rfl fun K hK => ?_
    go_simp
    go_at_call 25
    refine (HMA.out _).mono ?_
    rintro e w2 ⟨m, rfl, hm, h2⟩
    have H2 := Lib.hid (HST.out _ _ HBE.out (show Below wa.heap.size wa w2 from (Below.refl _ wa).drew.trans h2))
    have hm2 : m ≤ 256 := by rw [hm]; exact HM2.out
    have hmg : (m : Int) * ((P : Int) - 1) = (g : Int) := by
      have h := HGR.out
      rw [← hm] at h
      rw [← h, Int.natCast_mul, Int.natCast_sub hP1]
      rfl
    clear hm h2
    refine hK _ _ (HCE.out _ H2.out) ?_
    clear hK K c0 c1
    refine Kit.plan_op (by rfl) rfl fun K hK => ?_
    go_simp
    go_at_call 69
    refine (HBA.out _).mono ?_
    rintro e w3 ⟨rfl, h3⟩
    have H3 := Lib.hid (HST.out _ _ H2.out h3)
    clear h3
    refine hK _ _ (HCE.out _ H3.out) ?_
    clear hK K
    have hw1 : IntKind.i64.wrap ((P : Int) - 1) = (P : Int) - 1 := by rw [IntKind.wrap_i64]; omega
    have hw2 : IntKind.i64.wrap (g : Int) = (g : Int) := by rw [IntKind.wrap_i64]; omega
    repeat (refine Kit.plan_head (by rfl) (.inl ⟨by rfl, fun w' hS => by (dsimp only at hS); go_simp; (try with_reducible rfl)⟩) ?_; simp only [Act.put, List.setIfInBounds_toArray, List.set_cons_zero, List.set_cons_succ])
    refine Kit.plan_done ?_
    (try simp only [Act.put, List.setIfInBounds_toArray, List.set_cons_zero, List.set_cons_succ])
    clear hmg hw1 hw2
    obtain ⟨c0, c1⟩ := HCE.out w3 H3.out
    by_cases hlt : c < C
    · have hle : (q : Int) ≤ (g : Int) := by have := HQG.out.2 hlt; omega
      have hq3 : q * P = 2 ^ (b * (c + 1)) := by rw [HPS.out, ← HQ.out, HPE.out]
      have hq4 : q * P ≤ 2088960 := by rw [hq3]; exact HCP.out (c + 1) hlt
      have HQ3 := Lib.hid hq3
      have hqi : (q : Int) * (P : Int) = ((q * P : Nat) : Int) := by rw [Int.natCast_mul]
      obtain ⟨r, hr⟩ := ex_eq (q * P)
      rw [hr] at hqi hq4 HQ3
      clear hq3 hr
      have hc13 : c + 1 ≤ 13 := by have := HC13.out; omega
      go_wp2_with (first
        | (with_reducible refine (HBA.out _).mono ?_
           rintro e w4 ⟨rfl, h4⟩
           have H4 := Lib.hid (HST.out _ _ H3.out h4)
           clear h4))
      go_roundw
      case rel => exact ⟨c + 1, by omega, hlt, by go_num, ⟨r, by go_num, HQ3.out⟩, H4.out⟩
      case measure => simp [intOf]; omega
    · have hle : ¬ (q : Int) ≤ (g : Int) := by have : ¬ q ≤ g := fun e => hlt (HQG.out.1 e); omega
      go_wp2_with fail
      go_ret
      exact ⟨c, rfl, by omega, by rw [HN.out]; exact HB.out.trans (H3.out.mono (Nat.le_succ N))⟩
theorem and_one (x : Nat) (hx : x < 256) : bits .and .i64 (x : Int) 1 = ((x % 2 : Nat) : Int) := and_last x 1 (by omega) (by decide)
theorem bit_any (s : ByteArray) (i : Nat) (hi : i / 8 < s.size) (hi2 : i ≤ 100000) (w : World) : Calls Tryd.prog 70 #[.string s, .int .i64 (i : Int)] w fun e w' => e = .returned (.int .i64 (bitAt (nb s) i : Int)) ∧ w = w' := by
  have HBI : Hid ((nb s).getD (i / 8) 0 / 2 ^ (7 - i % 8) % 2 = bitAt (nb s) i) := rfl
  have hix := str_idx s (i / 8) hi
  have hx : (nb s).getD (i / 8) 0 < 256 := nb_lt s _ (getD_mem _ _ _ (by rw [nb_length]; exact hi))
  obtain ⟨X, hX⟩ := ex_eq ((nb s).getD (i / 8) 0)
  rw [hX] at hix hx HBI
  obtain ⟨T, hT⟩ := ex_eq (bitAt (nb s) i)
  rw [hT] at HBI ⊢
  have hq : (i : Int).tdiv 8 = ((i / 8 : Nat) : Int) := by rw [Int.tdiv_eq_ediv_of_nonneg (by omega)]; omega
  have hr : (i : Int).tmod 8 = ((i % 8 : Nat) : Int) := by rw [Int.tmod_eq_emod_of_nonneg (by omega)]; omega
  obtain ⟨Q, hQ⟩ := ex_eq (i / 8)
  obtain ⟨R, hR⟩ := ex_eq (i % 8)
  have hR7 : R ≤ 7 := by omega
  have hQ2 : Q ≤ 100000 := by omega
  obtain ⟨E, hE⟩ := ex_eq (7 - R)
  have hE7 : E ≤ 7 := by omega
  have hEi : (7 : Int) - (R : Int) = (E : Int) := by omega
  rw [hQ] at hq hix
  rw [hR] at hr HBI
  rw [hE] at HBI
  have hxe : X / 2 ^ E < 256 := Nat.lt_of_le_of_lt (Nat.div_le_self _ _) hx
  have hsh : (X : Int) / 2 ^ E = ((X / 2 ^ E : Nat) : Int) := by rw [Int.natCast_ediv, Int.natCast_pow]; rfl
  have ha := and_one (X / 2 ^ E) hxe
  rw [HBI.out] at ha
  obtain ⟨Y, hY⟩ := ex_eq (X / 2 ^ E)
  rw [hY] at hsh ha hxe
  clear hX hT hQ hR hE hY hi HBI
  go_enter Tryd.func70, Tryd.ntmps70
  go_wp2
  go_ret
  exact ⟨rfl, rfl⟩
set_option maxRecDepth 100000 in
set_option maxHeartbeats 4000000 in
theorem refDigits_any (b : Nat) (s : ByteArray) (hB : Bits b) (hn : 0 < s.size) (hn2 : s.size ≤ 32) (w : World) :
    Calls Tryd.prog 27 #[.agg #[.int .i64 (b : Int), .int .i64 (s.size : Int)], .string s] w fun e w' => ∃ x L, e = .returned x ∧ L = (One.digits b (nb s)).length ∧ w'.ownsRow w.heap.size 3 1 x L (natV (One.digits b (nb s))) ∧ Below w.heap.size w w' := by
  have HCK := Lib.hid (fun w => check_any b s.size hB hn hn2 w)
  have HMA := Lib.hid (fun w => main_any b s.size hB hn2 w)
  have HBA := Lib.hid (fun w => base_any b s.size hB w)
  have HBI := Lib.hid (fun i h1 h2 w => bit_any s i h1 h2 w)
  have HBM := Lib.hid (fun i k h1 h2 => bit_main hB (nb s) i k h1 h2)
  have HM : Hid (8 * s.size / b ≤ 256 ∧ cnt b (great b s.size) ≤ 13) := Lib.hid ⟨by rcases hB with rfl | rfl | rfl | rfl <;> omega, cnt_le hB (great_le hB hn2)⟩
  have hb8 : b ≤ 8 := by rcases hB with rfl | rfl | rfl | rfl <;> omega
  have hbz : 0 < b := hB.pos
  have HB0 := Lib.hid hB
  have hP : 2 ^ b ≤ 256 := by rcases hB with rfl | rfl | rfl | rfl <;> decide
  have hP1 : 1 ≤ 2 ^ b := Nat.two_pow_pos b
  have HLB : Hid (last b = 2 ^ b - 1) := rfl
  have HDL : Hid ((mainD b (nb s)).length = 8 * s.size / b) := Lib.hid (by rw [mainD_length hB, nb_length])
  have HDLT : Hid (∀ x ∈ mainD b (nb s), x < 2 ^ b) := Lib.hid (mainD_lt b (nb s))
  have HCS : Hid (∀ l : List Nat, csum b l ≤ l.length * 255) := Lib.hid (fun l => by
    have h := csum_le b l
    have h2 := last_le hB
    exact Nat.le_trans h (Nat.mul_le_mul_left _ h2))
  have HQ12 : Hid (∀ j, j < cnt b (great b s.size) → b * j ≤ 12) := Lib.hid (fun j hj => by
    have h1 := (cnt_lt hbz (great_ne hB hn) j).1 hj
    have h2 := great_le hB hn2
    refine Nat.le_of_not_lt fun h => ?_
    have h3 : 2 ^ 13 ≤ 2 ^ (b * j) := Nat.pow_le_pow_right (by decide) h
    omega)
  have HIB : Hid (∀ i, i < 8 * s.size / b → i * b + b ≤ 8 * s.size) := Lib.hid (fun i hi => by
    have h1 : (i + 1) * b ≤ 8 * s.size := by
      calc (i + 1) * b ≤ 8 * s.size / b * b := Nat.mul_le_mul_right _ hi
        _ ≤ 8 * s.size := Nat.div_mul_le_self _ _
    rw [Nat.add_mul, Nat.one_mul] at h1
    exact h1)
  have HDG : Hid (One.digits b (nb s) = mainD b (nb s) ++ dig b (cnt b (great b s.size)) (csum b (mainD b (nb s)))) := Lib.hid (by unfold One.digits; rw [nb_length])
  have HNL := Lib.hid (nb_length s)
  obtain ⟨DM, hDM⟩ := ex_eq (mainD b (nb s))
  rw [hDM] at HBM HDL HDLT HDG
  obtain ⟨DG, hDGe⟩ := ex_eq (One.digits b (nb s))
  rw [hDGe] at HDG ⊢
  obtain ⟨m, hm⟩ := ex_eq (8 * s.size / b)
  obtain ⟨C, hC⟩ := ex_eq (cnt b (great b s.size))
  rw [hm] at HM HDL HIB
  rw [hC] at HM HDG HQ12
  obtain ⟨P, hPe⟩ := ex_eq (2 ^ b)
  rw [hPe] at HBA hP hP1 HLB HDLT
  have HPE := Lib.hid hPe
  have HME := Lib.hid hm
  have HCE0 := Lib.hid hC
  have hm2 : m ≤ 256 := HM.out.1
  have hC13 : C ≤ 13 := HM.out.2
  clear hDM hDGe hm hC hPe hB
  obtain ⟨i0, hi0, hz0, hz1, hz2⟩ := info_parts Tryd.info3
  have FI := Lib.hid hi0
  have FZ0 := Lib.hid hz0
  have FZ1 := Lib.hid hz1
  have FZ2 := Lib.hid hz2
  clear hi0 hz0 hz1 hz2
  go_enter Tryd.func27, Tryd.ntmps27
  go_upto_region 1 with fail
  refine wp_over (fun W => Hid (W.heap[w.heap.size]? = some (.cells #[.int .i64 (b : Int), .int .i64 (s.size : Int)] 23 (0, 0))) ∧ Hid (Below w.heap.size w W)) ⟨heap_alloc_new _ _, (Below.refl _ _).alloc (Nat.le_refl _) _⟩ ?_
  rintro W ⟨HG, HB⟩
  obtain ⟨N, hN⟩ := ex_eq w.heap.size
  rw [hN] at HG HB ⊢
  have HN := Lib.hid hN
  clear hN
  have HWN : Hid (N + 1 ≤ W.heap.size) := Lib.hid (Array.getElem?_eq_some_iff.1 HG.out).1
  have HCE : Hid (∀ V, Below (N + 1) W V → V.cell? ⟨N, 0, none⟩ = some (.int .i64 (b : Int)) ∧ V.cell? ⟨N, 1, none⟩ = some (.int .i64 (s.size : Int))) := Lib.hid (fun V h => by
    have hg := (h.block N (Nat.lt_succ_self N)).trans HG.out
    exact ⟨(cell_of_row _ _ _ _ _ _ hg).trans rfl, (cell_of_row _ _ _ _ _ _ hg).trans rfl⟩)
  have HST : Hid (∀ V V', Below (N + 1) W V → Below V.heap.size V V' → Below (N + 1) W V') := Lib.hid (fun V V' h h' => h.trans (h'.mono (by have := h.size; have := HWN.out; omega)))
  have HOK : Hid (∀ V V' (x : Value) (n : Nat) (l : List Value), V.ownsRow (N + 1) 3 1 x n l → Below V.heap.size V V' → V'.ownsRow (N + 1) 3 1 x n l) := Lib.hid (fun V V' x n l h h' => ownsRow_keep h (Chg.of_below (M := fun _ _ => False) h') (fun _ _ _ h => h))
  go_wp2_with fail
  go_loopw [5, 6, 7] (fun x y z wr => ∃ (i : Nat) (cur : List Nat), i ≤ m ∧ z = .int .i64 (i : Int) ∧ Hid (cur = DM.take i) ∧ (∃ cs : Nat, y = .int .i64 (cs : Int) ∧ Hid (cs = csum b cur)) ∧ Hid (wr.ownsRow (N + 1) 3 1 x cur.length (natV cur)) ∧ Hid (Below (N + 1) W wr)) (fun _ _ z _ => m - (intOf z).toNat)
  case atStart => exact ⟨0, [], by omega, rfl, rfl, ⟨0, rfl, rfl⟩, ⟨rfl, .inl ⟨rfl, rfl⟩⟩, Below.refl _ _⟩
  case round =>
    obtain ⟨i, cur, hi, rfl, HCU, ⟨cs, rfl, HCSU⟩, HOW, HBE⟩ := hrel
    have HCL : Hid (cur.length ≤ 256) := Lib.hid (by rw [HCU.out, List.length_take]; omega)
    have hcs : cs ≤ 65280 := by rw [HCSU.out]; have := HCS.out cur; have := HCL.out; omega
    rename World => wa
    obtain ⟨c0, c1⟩ := HCE.out wa HBE.out
    by_cases hlt : i < m
    · have hki : (i : Int) < (m : Int) := by omega
      go_upto_region 6 with (first
        | (with_reducible refine (HMA.out _).mono ?_
           rintro e w2 ⟨m', rfl, hm', h2⟩
           rw [HME.out] at hm'
           have hm3 := hm'.symm
           subst hm3
           have H2 := Lib.hid (HST.out _ _ HBE.out h2)
           have HO2 := Lib.hid (HOK.out _ _ _ _ _ HOW.out h2)
           clear h2 c0 c1))
      have hD : DM.getD i 0 < P := HDLT.out _ (getD_mem _ _ _ (by rw [HDL.out]; exact hlt))
      have HBK : Hid (∀ k, k < b → bitAt (nb s) (i * b + k) = DM.getD i 0 / 2 ^ (b - 1 - k) % 2) := Lib.hid (fun k hk => HBM.out i k (by rw [HNL.out, HME.out]; exact hlt) hk)
      have HTK : Hid (DM.take (i + 1) = cur ++ [DM.getD i 0]) := Lib.hid (by
        rw [List.take_add_one, List.getElem?_eq_getElem (by rw [HDL.out]; exact hlt), HCU.out, List.getD_eq_getElem?_getD, List.getElem?_eq_getElem (by rw [HDL.out]; exact hlt)]; rfl)
      obtain ⟨D, hDe⟩ := ex_eq (DM.getD i 0)
      rw [hDe] at hD HBK HTK
      clear hDe
      obtain ⟨ib, hib⟩ := ex_eq (i * b)
      have hibi : (i : Int) * (b : Int) = (ib : Int) := by rw [← Int.natCast_mul, hib]
      have hib2 : ib + b ≤ 8 * s.size := by rw [← hib]; exact HIB.out i hlt
      rw [hib] at HBK
      clear hib
      clear hi
      go_upto_region 8 with fail
      go_loopw [8, 9] (fun x8 x9 wr => ∃ (k d : Nat), k ≤ b ∧ x9 = .int .i64 (k : Int) ∧ x8 = .int .i64 (d : Int) ∧ Hid (d = D / 2 ^ (b - k)) ∧ Hid (Below w2.heap.size w2 wr)) (fun _ x9 _ => b - (intOf x9).toNat)
      case atStart => exact ⟨0, 0, by omega, rfl, rfl, Lib.hid (by rw [Nat.sub_zero, HPE.out, Nat.div_eq_of_lt hD]), Below.refl _ _⟩
      case round =>
        obtain ⟨k, d, hk, rfl, rfl, HDK, HB2⟩ := hrel
        have HBE2 := Lib.hid (HST.out _ _ H2.out HB2.out)
        have HO3 := Lib.hid (HOK.out _ _ _ _ _ HO2.out HB2.out)
        rename World => wb
        obtain ⟨c0, c1⟩ := HCE.out wb HBE2.out
        have hd : d < 256 := by
          rw [HDK.out]
          exact Nat.lt_of_le_of_lt (Nat.div_le_self _ _) (by omega)
        by_cases hkb : k < b
        · have hkbi : (k : Int) < (b : Int) := by omega
          obtain ⟨idx, hidx⟩ : ∃ n, ib + k = n := ⟨_, rfl⟩
          have hidxi : (ib : Int) + (k : Int) = (idx : Int) := by omega
          have HBT0 := HBI.out idx (by omega) (by omega)
          have hbk := HBK.out k hkb
          rw [hidx] at hbk
          rw [hbk] at HBT0
          have HTB := Lib.hid (top_bits D b k hkb)
          have hT : D / 2 ^ (b - 1 - k) % 2 ≤ 1 := by omega
          obtain ⟨T, hTe⟩ := ex_eq (D / 2 ^ (b - 1 - k) % 2)
          rw [hTe] at HBT0 HTB hT
          have HBT := Lib.hid HBT0
          clear HBT0 hbk hTe hidx
          go_wp2_with (first
            | (with_reducible refine (HBT.out _).mono ?_
               rintro e w3 ⟨rfl, rfl⟩))
          go_roundw
          case rel => exact ⟨k + 1, 2 * d + T, hkb, by go_num, by go_num, Lib.hid (by rw [HDK.out]; exact HTB.out), HB2.out⟩
          case measure => simp [intOf]; omega
        · have hkbi : ¬ (k : Int) < (b : Int) := by omega
          have hdD : d = D := by rw [HDK.out, show b - k = 0 by omega]; simp
          subst hdD
          go_upto_region 12 with (first
            | (at_builtin
               refine wpList_append_own _ rfl _ _ 27 rfl (N + 1) 3 i0 (.int .i64 0) 1 8 Tryd.underlying27 FI.out FZ0.out FZ1.out FZ2.out rfl (by decide) _ _ _ rfl (HO3.out.alloc _) ⟨wb.heap.size, 0, none⟩ 1 1 [.int .i64 (d : Int)] rfl rfl (cell_one_new _ _ _) (by simp [Value.oneCell']) (by have := HCL.out; unfold maxLen; omega) (by have := HCL.out; omega) (by have := HBE2.out.size; have := HWN.out; simp; omega) ?_
               intro v6 w6 hown6 hgr6 _
               have HO6 : Hid (w6.ownsRow (N + 1) 3 1 v6 (cur.length + 1) (natV (cur ++ [d]))) := by rw [natV_app]; exact hown6
               have HC6 : Hid (Chg (fun q _ => N + 1 ≤ q) wb w6) := (Chg.alloc1 wb _).trans (Chg.of_grown hgr6 (fun q _ e => (HO3.out.lt q e).1))
               clear hown6 hgr6))
          have HB6 : Hid (Below (N + 1) W w6) := Lib.hid (HBE2.out.trans (HC6.out.below (by have := HBE2.out.size; have := HWN.out; omega) (fun q i hq h => by omega)))
          clear c0 c1
          obtain ⟨c0, c1⟩ := HCE.out w6 HB6.out
          go_wp2_with (first
            | (with_reducible refine (HBA.out _).mono ?_
               rintro e w7 ⟨rfl, h7⟩
               have H7 := Lib.hid h7
               have HB7 := Lib.hid (HST.out _ _ HB6.out h7)
               clear h7 c0 c1))
          go_roundw
          case rel =>
            refine ⟨i + 1, cur ++ [d], hlt, by go_num, Lib.hid (by rw [HTK.out]), ⟨cs + (P - 1 - d), by go_num, ?_⟩, ?_, HB7.out⟩
            · show _ = _
              rw [csum_app, HCSU.out, HLB.out]
            · have h := HOK.out _ _ _ _ _ HO6.out H7.out
              rw [show (cur ++ [d]).length = cur.length + 1 by rw [List.length_append]; rfl]
              exact h
          case measure => simp [intOf]; omega
    · have hki : ¬ (i : Int) < (m : Int) := by omega
      have HFU : Hid (cur = DM) := Lib.hid (by rw [HCU.out, List.take_of_length_le (by rw [HDL.out]; omega)])
      go_upto_region 14 with (first
        | (with_reducible refine (HMA.out _).mono ?_
           rintro e w2 ⟨m', rfl, hm', h2⟩
           rw [HME.out] at hm'
           have hm3 := hm'.symm
           subst hm3
           have H2 := Lib.hid (HST.out _ _ HBE.out h2)
           have HO2 := Lib.hid (HOK.out _ _ _ _ _ HOW.out h2)
           clear h2 c0 c1
           obtain ⟨c0, c1⟩ := HCE.out w2 H2.out)
        | (with_reducible refine (HCK.out _).mono ?_
           rintro e w3 ⟨c', rfl, hc', h3⟩
           rw [HCE0.out] at hc'
           have hc3 := hc'.symm
           subst hc3
           have H3 := Lib.hid (HST.out _ _ H2.out h3)
           have HO3 := Lib.hid (HOK.out _ _ _ _ _ HO2.out h3)
           clear h3 c0 c1))
      go_loopw [5, 10] (fun x y wr => ∃ (j : Nat) (pre : List Nat) (yi : Int), y = .int .i64 yi ∧ j ≤ C ∧ Hid (yi = (j : Int) - 1) ∧ Hid (pre ++ dig b j cs = dig b C cs) ∧ Hid (wr.ownsRow (N + 1) 3 1 x (cur ++ pre).length (natV (cur ++ pre))) ∧ Hid (Below (N + 1) W wr)) (fun _ y _ => (intOf y + 1).toNat)
      case atStart => exact ⟨C, [], (C : Int) - 1, by go_num, Nat.le_refl _, rfl, rfl, by rw [List.append_nil]; exact HO3.out, H3.out⟩
      case round =>
        obtain ⟨j, pre, yi, rfl, hj, HY, HPR, HOWx, HBEx⟩ := hrel
        have HPL : Hid (pre.length + j = C) := Lib.hid (by have := congrArg List.length HPR.out; rw [List.length_append, dig_length, dig_length] at this; exact this)
        have HCL2 : Hid ((cur ++ pre).length ≤ 270) := Lib.hid (by rw [List.length_append]; have := HPL.out; have := HCL.out; omega)
        rename World => wc
        cases j with
        | zero =>
          have hy : yi = -1 := HY.out
          subst hy
          have HFIN : Hid (cur ++ pre = DG) := Lib.hid (by
            have h := HPR.out
            rw [dig, List.append_nil] at h
            rw [h, HDG.out, HCSU.out, HFU.out])
          go_wp2_with fail
          go_ret
          refine ⟨_, DG.length, rfl, rfl, ?_, ?_⟩
          · rw [← HFIN.out, HN.out]; exact ownsRow_base HOWx.out (Nat.le_succ N)
          · rw [HN.out]; exact HB.out.trans (HBEx.out.mono (Nat.le_succ N))
        | succ j =>
          have hy : yi = (j : Int) := by rw [HY.out]; omega
          subst hy
          have hq12 : b * j ≤ 12 := HQ12.out j (by omega)
          have HDD : Hid (dig b (j + 1) cs = (cs / 2 ^ (b * j) % P) :: dig b j cs) := Lib.hid (by rw [dig, HPE.out])
          have HPK : Hid (∀ k, k ≤ j → 2 ^ (b * k) ≤ 4096) := Lib.hid (fun k hk => by
            have : b * k ≤ b * j := Nat.mul_le_mul_left _ hk
            calc 2 ^ (b * k) ≤ 2 ^ 12 := Nat.pow_le_pow_right (by decide) (by omega)
              _ ≤ 4096 := by decide)
          have HPS : Hid (∀ c, 2 ^ (b * (c + 1)) = 2 ^ (b * c) * P) := Lib.hid (fun c => by rw [Nat.mul_add, Nat.mul_one, Nat.pow_add, HPE.out])
          clear hq12
          go_upto_region 18 with fail
          go_loopw [11, 12] (fun x y wr => ∃ (k p : Nat), k ≤ j ∧ y = .int .i64 (k : Int) ∧ x = .int .i64 (p : Int) ∧ Hid (p = 2 ^ (b * k)) ∧ Hid (Below wc.heap.size wc wr)) (fun _ y _ => j - (intOf y).toNat)
          case atStart => exact ⟨0, 1, by omega, rfl, rfl, by show _ = _; simp, Below.refl _ _⟩
          case round =>
            obtain ⟨k, p, hk, rfl, rfl, HPP, HBp⟩ := hrel
            have hp4 : p ≤ 4096 := by rw [HPP.out]; exact HPK.out k hk
            have hp0 : ¬ p = 0 := by rw [HPP.out]; have := Nat.two_pow_pos (b * k); omega
            have HBEp := Lib.hid (HST.out _ _ HBEx.out HBp.out)
            have HOp := Lib.hid (HOK.out _ _ _ _ _ HOWx.out HBp.out)
            rename World => wd
            obtain ⟨c0, c1⟩ := HCE.out wd HBEp.out
            by_cases hkj : k < j
            · have hkji : (k : Int) < (j : Int) := by omega
              have hr3 : p * P = 2 ^ (b * (k + 1)) := by rw [HPS.out, ← HPP.out]
              have hr4 : p * P ≤ 4096 := by rw [hr3]; exact HPK.out (k + 1) hkj
              have hri : (p : Int) * (P : Int) = ((p * P : Nat) : Int) := by rw [Int.natCast_mul]
              obtain ⟨r, hr⟩ := ex_eq (p * P)
              rw [hr] at hri hr4 hr3
              have HR3 := Lib.hid hr3
              clear hr3 hr
              go_wp2_with (first
                | (with_reducible refine (HBA.out _).mono ?_
                   rintro e w4 ⟨rfl, h4⟩
                   have H4 := Lib.hid (HBp.out.trans (h4.mono HBp.out.size))
                   clear h4))
              go_roundw
              case rel => exact ⟨k + 1, r, hkj, by go_num, by go_num, HR3.out, H4.out⟩
              case measure => simp [intOf]; omega
            · have hkje : k = j := by omega
              subst hkje
              have hkji : ¬ (k : Int) < (k : Int) := by omega
              have hY : cs / p ≤ 65280 := Nat.le_trans (Nat.div_le_self _ _) hcs
              have HDe : Hid (cs / p % P = cs / 2 ^ (b * k) % P) := Lib.hid (by rw [HPP.out])
              have hd1 : (cs : Int).tdiv (p : Int) = ((cs / p : Nat) : Int) := by rw [Int.tdiv_eq_ediv_of_nonneg (by omega), Int.natCast_ediv]
              have hd2 : (cs : Int) / (p : Int) = ((cs / p : Nat) : Int) := by rw [Int.natCast_ediv]
              obtain ⟨Y, hYe⟩ := ex_eq (cs / p)
              rw [hYe] at hY HDe hd1 hd2
              have hwY : IntKind.i64.wrap (Y : Int) = (Y : Int) := by rw [IntKind.wrap_i64]; omega
              have hP0 : ¬ P = 0 := by omega
              have hm1 : (Y : Int).tmod (P : Int) = ((Y % P : Nat) : Int) := by rw [Int.tmod_eq_emod_of_nonneg (by omega), Int.natCast_emod]
              have hm3 : (Y : Int) % (P : Int) = ((Y % P : Nat) : Int) := by rw [Int.natCast_emod]
              have hD256 : Y % P < 256 := Nat.lt_of_lt_of_le (Nat.mod_lt _ (by omega)) hP
              obtain ⟨D, hDe⟩ := ex_eq (Y % P)
              rw [hDe] at hm1 hm3 HDe hD256
              have hwD : IntKind.i64.wrap (D : Int) = (D : Int) := by rw [IntKind.wrap_i64]; omega
              clear hYe hDe
              go_upto_region 21 with fail
              refine Kit.wp_region_plan (fun X => X.cell? ⟨N, 0, none⟩ = some (.int .i64 (b : Int)) ∧ X.cell? ⟨N, 1, none⟩ = some (.int .i64 (s.size : Int))) [(true, 0), (true, 1), (true, 2), (true, 3), (true, 4), (false, 5), (true, 6), (false, 7), (false, 8), (false, 9)] (by kernel_rfl) (by kernel_rfl) (by kernel_rfl) (by kernel_rfl) ⟨c0, c1⟩ ?_
              repeat (refine Kit.plan_head (by rfl) (.inl ⟨by rfl, fun w' hS => by (dsimp only at hS); go_simp; (try with_reducible rfl)⟩) ?_; simp only [Act.put, List.setIfInBounds_toArray, List.set_cons_zero, List.set_cons_succ])
              clear c0 c1
              refine Kit.plan_op (by rfl) rfl fun K hK => ?_
              go_simp
              go_at_call 69
              refine (HBA.out _).mono ?_
              rintro e w5 ⟨rfl, h5⟩
              have HBE5 := Lib.hid (HST.out _ _ HBEp.out (show Below wd.heap.size wd w5 from (Below.refl _ wd).drew.trans h5))
              have HOW5 := Lib.hid (HOK.out _ _ _ _ _ HOp.out (show Below wd.heap.size wd w5 from (Below.refl _ wd).drew.trans h5))
              clear h5
              refine hK _ _ (HCE.out w5 HBE5.out) ?_
              clear hK K
              repeat (refine Kit.plan_head (by rfl) (.inl ⟨by rfl, fun w' hS => by (dsimp only at hS); go_simp; (try with_reducible rfl)⟩) ?_; simp only [Act.put, List.setIfInBounds_toArray, List.set_cons_zero, List.set_cons_succ])
              refine Kit.plan_op (by rfl) rfl fun K hK => ?_
              go_simp
              have HBE6 : Hid (Below (N + 1) W (w5.alloc (.cells #[.int .i64 (D : Int)] 3))) := Lib.hid (HBE5.out.alloc (by have := HBE5.out.size; have := HWN.out; omega) _)
              refine hK _ _ (HCE.out _ HBE6.out) ?_
              clear hK K
              refine Kit.plan_op (by rfl) rfl fun K hK => ?_
              refine wp_append_src (.tmp 63) (.tmp 70) 27 (by rfl) (N + 1) 3 i0 (.int .i64 0) 1 8 Tryd.underlying27 FI.out FZ0.out FZ1.out FZ2.out rfl (by decide) _ (cur ++ pre).length (natV (cur ++ pre)) (by rfl) (HOW5.out.alloc _) (some ⟨w5.heap.size, 0, none⟩) 1 1 [.int .i64 (D : Int)] (by rfl) (.inr ⟨rfl, _, rfl, cell_one_new _ _ _⟩) (by simp [Value.oneCell']) (by have := HCL2.out; unfold maxLen; omega) (by have := HCL2.out; omega) (by have := HBE5.out.size; have := HWN.out; simp; omega) ?_
              intro v6 w6 hown6 hgr6
              have HO6 : Hid (w6.ownsRow (N + 1) 3 1 v6 ((cur ++ pre).length + 1) (natV (cur ++ pre ++ [D]))) := by rw [natV_app]; exact hown6
              have HC6 : Hid (Chg (fun q _ => N + 1 ≤ q) w5 w6) := (Chg.alloc1 w5 _).trans (Chg.of_grown hgr6 (fun q _ e => (HOW5.out.lt q e).1))
              clear hown6 hgr6
              have HB6 : Hid (Below (N + 1) W w6) := Lib.hid (HBE5.out.trans (HC6.out.below (by have := HBE5.out.size; have := HWN.out; omega) (fun q i hq h => by omega)))
              refine hK _ _ (HCE.out _ HB6.out) ?_
              clear hK K
              simp only [Act.put, List.setIfInBounds_toArray, List.set_cons_zero, List.set_cons_succ]
              refine Kit.plan_op (by rfl) rfl fun K hK => ?_
              go_simp
              refine hK _ _ (HCE.out _ HB6.out) (Kit.plan_done ?_)
              clear hK K
              (try simp only [Act.put, List.setIfInBounds_toArray, List.set_cons_zero, List.set_cons_succ])
              go_wp2_with fail
              go_roundw
              case rel =>
                refine ⟨k, pre ++ [D], (k : Int) - 1, by go_num, by omega, rfl, ?_, ?_, HB6.out⟩
                · have h := HPR.out
                  rw [HDD.out, ← HDe.out] at h
                  show _ = _
                  rw [List.append_assoc]; exact h
                · rw [← List.append_assoc, show (cur ++ pre ++ [D]).length = (cur ++ pre).length + 1 by rw [List.length_append]; rfl]
                  exact HO6.out
              case measure => simp [intOf]
end Go.Proofs.YtmnendoloankgaaDoor
