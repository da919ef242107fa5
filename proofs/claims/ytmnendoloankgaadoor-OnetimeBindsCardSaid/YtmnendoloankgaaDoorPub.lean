/- onetime: chainOf, publicKey, Public. -/
import Derived.Test.YtmnendoloankgaaDoorPlan
namespace Go.Proofs.YtmnendoloankgaaDoor
set_option linter.unusedVariables false
set_option linter.unusedSimpArgs false
open Go.RowKit
open Kit (Chg)
open Sha (v)
open Go.Proofs.YtmnendoloankgaaDoor.One

theorem chain_bad (i j m : Int) (x : ByteArray) (hb : ¬ (0 ≤ i ∧ i ≤ 999 ∧ 0 ≤ j ∧ j ≤ m ∧ m ≤ 255 ∧ x.size = 32)) (w : World) :
    Calls Tryd.prog 30 #[.int .i64 i, .int .i64 j, .int .i64 m, .string x] w fun e w' => e = .returned (.tuple #[.string ByteArray.empty, .int .i64 1]) ∧ w = w' := by
  by_cases h1 : 0 ≤ i ∧ i ≤ 999
  · have HC : Hid (decide (0 ≤ i ∧ i ≤ 999) = true) := Lib.hid (decide_eq_true h1)
    by_cases h2 : 0 ≤ j
    · by_cases h3 : j ≤ m
      · by_cases h4 : m ≤ 255
        · have HS : Hid (decide (x.size = 32) = false) := Lib.hid (decide_eq_false (fun h => hb ⟨h1.1, h1.2, h2, h3, h4, h⟩))
          clear hb h1
          go_enter Tryd.func30, Tryd.ntmps30
          go_wp2_with (first
            | (with_reducible refine (isSum_any x _).mono ?_; rintro e w2 ⟨rfl, rfl⟩; rw [HS.out])
            | (with_reducible refine (validChain_any i _).mono ?_; rintro e w2 ⟨rfl, rfl⟩; rw [HC.out]))
          go_ret2
          exact ⟨rfl, rfl⟩
        · clear hb h1
          go_enter Tryd.func30, Tryd.ntmps30
          go_wp2_with (first
            | (with_reducible refine (validChain_any i _).mono ?_; rintro e w2 ⟨rfl, rfl⟩; rw [HC.out]))
          go_ret2
          exact ⟨rfl, rfl⟩
      · clear hb h1
        go_enter Tryd.func30, Tryd.ntmps30
        go_wp2_with (first
          | (with_reducible refine (validChain_any i _).mono ?_; rintro e w2 ⟨rfl, rfl⟩; rw [HC.out]))
        go_ret2
        exact ⟨rfl, rfl⟩
    · clear hb h1
      go_enter Tryd.func30, Tryd.ntmps30
      go_wp2_with (first
        | (with_reducible refine (validChain_any i _).mono ?_; rintro e w2 ⟨rfl, rfl⟩; rw [HC.out]))
      go_ret2
      exact ⟨rfl, rfl⟩
  · have HC : Hid (decide (0 ≤ i ∧ i ≤ 999) = false) := Lib.hid (decide_eq_false h1)
    clear hb h1
    go_enter Tryd.func30, Tryd.ntmps30
    go_wp2_with (first
      | (with_reducible refine (validChain_any i _).mono ?_; rintro e w2 ⟨rfl, rfl⟩; rw [HC.out]))
    go_ret2
    exact ⟨rfl, rfl⟩
/-- The function that chainOf returns. -/
def atFn (b1 b2 : Nat) : Value := .func (.func 108) #[] #[.pointer (some ⟨b1, 0, none⟩), .pointer (some ⟨b2, 0, none⟩)]
set_option maxHeartbeats 1000000 in
theorem chainOf_ok (seed : ByteArray) (hs : seed.size = 32) (c : Nat) (hc : c ≤ 999) (w : World) (hL : Laid w) :
    Calls Tryd.prog 80 #[.string seed, .int .i64 (c : Int)] w fun e w' => ∃ (b1 b2 : Nat) (u : ByteArray), e = .returned (.func (.func 108) #[] #[.pointer (some ⟨b1, 0, none⟩), .pointer (some ⟨b2, 0, none⟩)]) ∧ w'.cell? ⟨b1, 0, none⟩ = some (.int .i64 (c : Int)) ∧ w'.cell? ⟨b2, 0, none⟩ = some (.string u) ∧ nb u = secret (nb seed) c ∧ Below w.heap.size w w' := by
  have HL := Lib.hid hL
  have HS := Lib.hid hs
  have HC := Lib.hid hc
  clear hL hs hc
  go_enter Tryd.func80, Tryd.ntmps80
  go_upto_region 1 with fail
  refine wp_over (fun W => Hid (W.heap[w.heap.size]? = some (.cells #[.int .i64 (c : Int)] 3 (0, 0))) ∧ Hid (Below w.heap.size w W)) ⟨heap_alloc_new _ _, (Below.refl _ _).alloc (Nat.le_refl _) _⟩ ?_
  rintro W ⟨HG, HB⟩
  obtain ⟨N, hN⟩ := ex_eq w.heap.size
  rw [hN] at HG HB ⊢
  have HN := Lib.hid hN
  clear hN
  have c0 : W.cell? ⟨N, 0, none⟩ = some (.int .i64 (c : Int)) := (cell_of_row _ _ _ _ _ _ HG.out).trans rfl
  have HLW : Hid (Laid W) := Lib.hid (HL.out.later HB.out (by rw [HN.out]; exact Nat.le_refl _))
  go_upto_region 2 with (first
    | (with_reducible refine (secret_ok seed HS.out c HC.out _ HLW.out).mono ?_
       rintro e w2 ⟨u, rfl, hu, h2⟩
       have HU := Lib.hid hu
       have H2 := Lib.hid h2
       have d0 : w2.cell? ⟨N, 0, none⟩ = some (.int .i64 (c : Int)) := (h2.cell (World.block_lt_of_cell? W _ c0)).trans c0
       clear hu h2 c0))
  have HNW : Hid (N < W.heap.size) := Lib.hid (Array.getElem?_eq_some_iff.1 HG.out).1
  have HF : Hid ((w2.alloc (.cells #[.string u] 9)).cell? ⟨N, 0, none⟩ = some (.int .i64 (c : Int)) ∧ (w2.alloc (.cells #[.string u] 9)).cell? ⟨w2.heap.size, 0, none⟩ = some (.string u) ∧ Below N w (w2.alloc (.cells #[.string u] 9))) := Lib.hid ⟨((Below.refl _ w2).alloc (Nat.le_refl _) _).cell (World.block_lt_of_cell? w2 _ d0) |>.trans d0, (cell_of_row _ _ _ _ _ _ (heap_alloc_new _ _)).trans rfl, (HB.out.trans (H2.out.mono (Nat.le_of_lt HNW.out))).alloc (by have := HNW.out; have := H2.out.size; omega) _⟩
  go_wp2_with fail
  go_ret
  exact ⟨N, w2.heap.size, u, rfl, HF.out.1, HF.out.2.1, HU.out, by rw [HN.out]; exact HF.out.2.2⟩
theorem at_ok (b1 b2 : Nat) (c m : Nat) (hc : c ≤ 999) (hm : m ≤ 255) (u : ByteArray) (hu : u.size = 32) (w : World) (h1 : w.cell? ⟨b1, 0, none⟩ = some (.int .i64 (c : Int))) (h2 : w.cell? ⟨b2, 0, none⟩ = some (.string u)) (hL : Laid w) :
    Calls Tryd.prog 108 #[.int .i64 (m : Int), .pointer (some ⟨b1, 0, none⟩), .pointer (some ⟨b2, 0, none⟩)] w fun e w' => ∃ y : ByteArray, e = .returned (.string y) ∧ nb y = chain c 0 m (nb u) ∧ Below w.heap.size w w' := by
  have HL := Lib.hid hL
  have HCH := Lib.hid (fun w hL => chain_ok c 0 m hc (Nat.zero_le _) hm u hu w hL)
  rw [show (((0 : Nat)) : Int) = 0 from rfl, Nat.sub_zero] at HCH
  clear hL hc hm
  go_enter Tryd.func108, Tryd.ntmps108
  go_wp2_with (first
    | (with_reducible refine (HCH.out _ HL.out).mono ?_
       rintro e w2 ⟨y, rfl, hy, h2⟩
       have HY := Lib.hid hy
       have H2 := Lib.hid h2
       clear hy h2))
  go_ret
  exact ⟨y, rfl, HY.out, H2.out⟩
theorem pub_lit : nb { data := #[112, 117, 98, 108, 105, 99] } = publicB := rfl
set_option maxHeartbeats 1000000 in
theorem publicKey_any (a : Option Addr) (cap : Nat) (vs : List ByteArray) (L : Nat) (hLe : vs.length = L) (h0 : 0 < vs.length) (hN : vs.length ≤ 1000) (hcap : vs.length ≤ cap) (h32 : ∀ s ∈ vs, s.size = 32) (w : World) (hS : StrsAt w a vs) (hL : Laid w) :
    Calls Tryd.prog 81 #[.slice a L cap] w fun e w' => ∃ u : ByteArray, e = .returned (.string u) ∧ nb u = pubOf (vs.map nb) ∧ Below w.heap.size w w' := by
  obtain ⟨b, o, rfl, hcs⟩ : ∃ b o, a = some ⟨b, o, none⟩ ∧ ∀ i, i < vs.length → w.cell? ⟨b, o + i, none⟩ = some (.string (vs.getD i ByteArray.empty)) := by
    rcases hS with h | h
    · subst h; simp at h0
    · exact h
  have hcl : (catB vs).length = 32 * vs.length := by
    clear hcs hS hcap h0 hN hLe
    induction vs with
    | nil => rfl
    | cons v vs ih =>
      unfold catB at ih ⊢
      rw [List.flatMap_cons, List.length_append, ih (fun s hs => h32 s (List.mem_cons_of_mem _ hs)), nb_length, h32 v (List.mem_cons_self ..), List.length_cons]
      omega
  have HL := Lib.hid hL
  have HCS := Lib.hid hcs
  have HLE := Lib.hid hLe
  have H0 := Lib.hid h0
  have HN := Lib.hid hN
  have HCAP := Lib.hid hcap
  have HCL := Lib.hid hcl
  have HPUB : Hid (Sha.sum (publicB ++ catB vs) = pubOf (vs.map nb)) := Lib.hid (by unfold pubOf catB; rw [List.flatMap_def])
  clear hL hcs hLe h0 hN hcap hcl h32 hS
  go_enter Tryd.func81, Tryd.ntmps81
  go_wp2_with (first
    | (with_reducible refine (glue_l b o cap vs L HLE.out H0.out (by have := HN.out; omega) HCAP.out (by rw [HCL.out]; have := HN.out; omega) _ HCS.out (catB vs) rfl).mono ?_
       rintro e w2 ⟨g, rfl, hg, h2⟩
       have HG := Lib.hid hg
       have H2 := Lib.hid h2
       clear hg h2
       have HST : Hid (∀ W, W = w2.alloc (.cells #[.string { data := #[112, 117, 98, 108, 105, 99] }, .string g] 9) → StrsAt W (some ⟨w2.heap.size, 0, none⟩) [{ data := #[112, 117, 98, 108, 105, 99] }, g] ∧ Below w.heap.size w W) := Lib.hid (fun W e => by
         subst e
         exact ⟨strs_of_row (ss := [{ data := #[112, 117, 98, 108, 105, 99] }, g]) (heap_alloc_new _ _), H2.out.alloc H2.out.size _⟩)
       have HT : Hid (catB [{ data := #[112, 117, 98, 108, 105, 99] }, g] = publicB ++ catB vs) := Lib.hid (by
         unfold catB at *
         rw [List.flatMap_cons, List.flatMap_cons, List.flatMap_nil, List.append_nil, HG.out, pub_lit]))
    | (with_reducible refine (join_l (some ⟨w2.heap.size, 0, none⟩) 2 [{ data := #[112, 117, 98, 108, 105, 99] }, g] 2 rfl (by rw [HT.out, List.length_append, HCL.out, show publicB.length = 6 from rfl]; have := HN.out; omega) (by simp) _ (HST.out _ rfl).1 (HL.out.later (HST.out _ rfl).2 (Nat.le_refl _)) (publicB ++ catB vs) HT.out).mono ?_
       rintro e w3 ⟨u, rfl, hu, h3⟩
       have HU := Lib.hid hu
       have H3 : Hid (Below w.heap.size w w3) := Lib.hid ((HST.out _ rfl).2.trans (h3.mono (HST.out _ rfl).2.size))
       clear hu h3))
  go_ret
  exact ⟨u, rfl, by rw [HU.out]; exact HPUB.out, H3.out⟩
theorem count_le {b n : Nat} (hB : Bits b) (hn2 : n ≤ 32) : count b n ≤ 269 := by
  have h := cnt_le hB (great_le hB hn2)
  unfold count
  rcases hB with rfl | rfl | rfl | rfl <;> omega
theorem count_pos {b n : Nat} (hB : Bits b) : 0 < count b n := by unfold count cnt; exact Nat.add_pos_right _ (Nat.succ_pos _)
theorem vp_of {b n : Nat} (hB : Bits b) (hn : 0 < n) (hn2 : n ≤ 32) : VP (b : Int) (n : Int) := ⟨by rcases hB with rfl | rfl | rfl | rfl <;> simp, by omega, by omega⟩
theorem last_le {b : Nat} (hB : Bits b) : last b ≤ 255 := by rcases hB with rfl | rfl | rfl | rfl <;> decide
theorem range_snoc {α : Type} (f : Nat → α) (k : Nat) : (List.range (k + 1)).map f = (List.range k).map f ++ [f k] := by rw [List.range_succ, List.map_append]; rfl
set_option maxRecDepth 100000 in
set_option maxHeartbeats 2000000 in
theorem public_ok (b n : Nat) (hB : Bits b) (hn : 0 < n) (hn2 : n ≤ 32) (seed : ByteArray) (hs : seed.size = 32) (w : World) (hL : Laid w) :
    Calls Tryd.prog 34 #[.agg #[.int .i64 (b : Int), .int .i64 (n : Int)], .string seed] w fun e w' => ∃ u : ByteArray, e = .returned (.tuple #[.string u, .int .i64 0]) ∧ nb u = pub b (nb seed) (count b n) ∧ Below w.heap.size w w' := by
  have HV : Hid (decide (VP (b : Int) (n : Int)) = true) := Lib.hid (decide_eq_true (vp_of hB hn hn2))
  have HS : Hid (decide (seed.size = 32) = true) := Lib.hid (decide_eq_true hs)
  have HSS := Lib.hid hs
  have HCH := Lib.hid (fun w => chains_ok b n hB hn hn2 w)
  have HLA := Lib.hid (fun w => last_any (b : Int) (n : Int) b rfl hB w)
  have hC := count_le hB hn2
  have hC0 := count_pos (n := n) hB
  have hLL := last_le hB
  have HL := Lib.hid hL
  have HPU : Hid (pub b (nb seed) (count b n) = pubOf ((List.range (count b n)).map fun i => chain i 0 (last b) (secret (nb seed) i))) := rfl
  obtain ⟨C, hCe⟩ := ex_eq (count b n)
  obtain ⟨L, hLe⟩ := ex_eq (last b)
  rw [hLe] at hLL HLA HPU
  rw [hCe] at hC hC0 HPU ⊢
  have HCE := Lib.hid hCe
  clear hL hs hB hn hn2 hCe hLe
  obtain ⟨i0, hi0, hz0, hz1, hz2⟩ := info_parts Tryd.info9
  have FI := Lib.hid hi0
  have FZ0 := Lib.hid hz0
  have FZ1 := Lib.hid hz1
  have FZ2 := Lib.hid hz2
  clear hi0 hz0 hz1 hz2
  go_enter Tryd.func34, Tryd.ntmps34
  go_upto_region 1 with fail
  refine wp_over (fun W => Hid (W.heap[w.heap.size]? = some (.cells #[.int .i64 (b : Int), .int .i64 (n : Int)] 25 (0, 0))) ∧ Hid (Below w.heap.size w W)) ⟨heap_alloc_new _ _, (Below.refl _ _).alloc (Nat.le_refl _) _⟩ ?_
  rintro W ⟨HG, HB⟩
  obtain ⟨N, hN⟩ := ex_eq w.heap.size
  rw [hN] at HG HB ⊢
  have HN := Lib.hid hN
  clear hN
  have HWN : Hid (N + 1 ≤ W.heap.size) := Lib.hid (Array.getElem?_eq_some_iff.1 HG.out).1
  have HCEL : Hid (∀ V, Below (N + 1) W V → V.cell? ⟨N, 0, none⟩ = some (.int .i64 (b : Int)) ∧ V.cell? ⟨N, 1, none⟩ = some (.int .i64 (n : Int))) := Lib.hid (fun V h => by
    have hg := (h.block N (Nat.lt_succ_self N)).trans HG.out
    exact ⟨(cell_of_row _ _ _ _ _ _ hg).trans rfl, (cell_of_row _ _ _ _ _ _ hg).trans rfl⟩)
  have HLD : Hid (∀ V, Below (N + 1) W V → Laid V) := Lib.hid (fun V h => HL.out.later (HB.out.trans (h.mono (Nat.le_succ N))) (by rw [HN.out]; exact Nat.le_refl _))
  obtain ⟨c0, c1⟩ := HCEL.out W (Below.refl _ _)
  go_upto_region 3 with (first
    | (with_reducible refine (valid_any (b : Int) (n : Int) _).mono ?_
       rintro e w2 ⟨rfl, h2⟩
       rw [HV.out]
       have H2 := Lib.hid (h2.mono HWN.out)
       clear h2 c0 c1
       obtain ⟨c0, c1⟩ := HCEL.out w2 H2.out)
    | (with_reducible refine (isSum_any seed _).mono ?_; rintro e w3 ⟨rfl, rfl⟩; rw [HS.out]))
  go_upto_region 5 with (first
    | (with_reducible refine (HCH.out _).mono ?_
       rintro e w4 ⟨m, rfl, hm, h4⟩
       rw [HCE.out] at hm
       have hm2 := hm.symm
       subst hm2
       have H4 := Lib.hid (H2.out.trans (h4.mono (by have := H2.out.size; have := HWN.out; omega)))
       clear h4 c0 c1))
  go_loopw [6, 19] (fun x y wr => ∃ (k : Nat) (vs : List ByteArray), k ≤ C ∧ y = .int .i64 (k : Int) ∧ vs.length = k ∧ Hid (vs.map nb = (List.range k).map fun i => chain i 0 L (secret (nb seed) i)) ∧ Hid (wr.ownsRow (N + 1) 9 1 x k (strV vs)) ∧ Hid (Below (N + 1) W wr)) (fun _ y _ => C - (intOf y).toNat)
  case atStart => exact ⟨0, [], by omega, rfl, rfl, rfl, ⟨rfl, .inl ⟨rfl, rfl⟩⟩, H4.out⟩
  case round =>
    obtain ⟨k, vs, hk, rfl, hvl, HVS, HOW, HBE⟩ := hrel
    have HVL := Lib.hid hvl
    clear hvl
    by_cases hlt : k < C
    · have hki : (k : Int) < (C : Int) := by omega
      have hk9 : k ≤ 999 := by omega
      go_upto_region 8 with (first
        | (with_reducible refine (chainOf_ok seed HSS.out k hk9 _ (HLD.out _ HBE.out)).mono ?_
           rintro e w5 ⟨b1, b2, u, rfl, h51, h52, hu, h5⟩
           have HU := Lib.hid hu
           have H51 := Lib.hid h51
           have H52 := Lib.hid h52
           have H5 := Lib.hid h5
           have HBE5 : Hid (Below (N + 1) W w5) := Lib.hid (HBE.out.trans (h5.mono (by have := HBE.out.size; have := HWN.out; omega)))
           clear hu h51 h52 h5))
      have HO5 : Hid (w5.ownsRow (N + 1) 9 1 u6 k (strV vs)) := Lib.hid (ownsRow_keep HOW.out (Chg.of_below (M := fun _ _ => False) H5.out) (fun _ _ _ h => h))
      obtain ⟨c0, c1⟩ := HCEL.out w5 HBE5.out
      go_upto_region 9 with (first
        | (go_at_call 68
           (with_reducible refine (HLA.out _).mono ?_)
           rintro e w6 ⟨rfl, h6⟩
           have H6 := Lib.hid h6
           have H61 : Hid (w6.cell? ⟨b1, 0, none⟩ = some (.int .i64 (k : Int))) := Lib.hid ((h6.cell (World.block_lt_of_cell? w5 _ H51.out)).trans H51.out)
           have H62 : Hid (w6.cell? ⟨b2, 0, none⟩ = some (.string u)) := Lib.hid ((h6.cell (World.block_lt_of_cell? w5 _ H52.out)).trans H52.out)
           have HBE6 : Hid (Below (N + 1) W w6) := Lib.hid (HBE5.out.trans (h6.mono (by have := HBE5.out.size; have := HWN.out; omega)))
           clear h6)
        | (go_at_call 108
           (with_reducible refine (at_ok b1 b2 k L hk9 hLL u (nb_size HU.out (secret_length _ _)) w6 H61.out H62.out (HLD.out _ HBE6.out)).mono ?_)
           rintro e w7 ⟨y, rfl, hy, h7⟩
           have HY := Lib.hid hy
           have HBE7 : Hid (Below (N + 1) W w7) := Lib.hid (HBE6.out.trans (h7.mono (by have := HBE6.out.size; have := HWN.out; omega)))
           have HO7 : Hid (w7.ownsRow (N + 1) 9 1 u6 k (strV vs)) := Lib.hid (ownsRow_keep HO5.out ((Chg.of_below (M := fun _ _ => False) H6.out).trans (Chg.of_below (M := fun _ _ => False) h7)) (fun _ _ _ h => h))
           clear hy h7)
        | (at_builtin
           refine wpList_append_own _ rfl _ _ 47 rfl (N + 1) 9 i0 (.string ByteArray.empty) 1 16 Tryd.underlying47 FI.out FZ0.out FZ1.out FZ2.out rfl (by decide) _ _ _ rfl (HO7.out.alloc _) ⟨w7.heap.size, 0, none⟩ 1 1 [.string y] rfl rfl (cell_one_new _ _ _) (by simp [Value.oneCell']) (by unfold maxLen; omega) (by omega) (by have := HBE7.out.size; have := HWN.out; simp; omega) ?_
           intro v8 w8 hown8 hgr8 _
           have HO8 : Hid (w8.ownsRow (N + 1) 9 1 v8 (k + 1) (strV (vs ++ [y]))) := by rw [strV_app]; exact hown8
           have HC8 : Hid (Chg (fun q _ => N + 1 ≤ q) w7 w8) := (Chg.alloc1 w7 _).trans (Chg.of_grown hgr8 (fun q _ e => (HO7.out.lt q e).1))
           have HBE8 : Hid (Below (N + 1) W w8) := Lib.hid (HBE7.out.trans (HC8.out.below (by have := HBE7.out.size; have := HWN.out; omega) (fun q i hq h => by omega)))
           clear hown8 hgr8))
      go_wp2_with fail
      go_roundw
      case rel =>
        refine ⟨k + 1, vs ++ [y], hlt, by go_num, by rw [List.length_append, HVL.out]; rfl, ?_, HO8.out, HBE8.out⟩
        show _ = _
        rw [List.map_append, HVS.out, range_snoc]
        simp [HY.out, HU.out]
      case measure => simp [intOf]; omega
    · have hke : k = C := by omega
      have hki : ¬ (k : Int) < (C : Int) := by omega
      obtain ⟨a9, cp9, hv9, hl9, hc9, hS9, hnil9, hlt9⟩ := strs_of_own HOW.out
      subst hv9
      have HS9 := Lib.hid hS9
      have HL9 := Lib.hid hl9
      have HC9 := Lib.hid hc9
      have HKE := Lib.hid hke
      have H32 : Hid (∀ s ∈ vs, s.size = 32) := Lib.hid (fun s hs => by
        have h1 : nb s ∈ vs.map nb := List.mem_map.2 ⟨s, hs, rfl⟩
        rw [HVS.out] at h1
        obtain ⟨i, _, he⟩ := List.mem_map.1 h1
        rw [← nb_length, ← he]
        exact chain_length _ _ _ _ (secret_length _ _))
      clear hS9 hl9 hc9 hnil9 hlt9 hke
      go_wp2_with (first
        | (with_reducible refine (publicKey_any a9 cp9 vs k HL9.out (by rw [HL9.out]; omega) (by rw [HL9.out]; omega) HC9.out H32.out _ HS9.out (HLD.out _ HBE.out)).mono ?_
           rintro e w6 ⟨u, rfl, hu, h6⟩
           have HU := Lib.hid hu
           have H6 : Hid (Below (N + 1) W w6) := Lib.hid (HBE.out.trans (h6.mono (by have := HBE.out.size; have := HWN.out; omega)))
           clear hu h6))
      go_ret2
      exact ⟨u, rfl, by rw [HU.out, HVS.out, HPU.out, HKE.out], by rw [HN.out]; exact HB.out.trans (H6.out.mono (Nat.le_succ N))⟩
end Go.Proofs.YtmnendoloankgaaDoor
