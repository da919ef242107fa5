/- The laws Only and Binds, walked. -/
import Derived.Test.YtmnendoloankgaaDoorLwB
import Derived.Test.YtmnendoloankgaaDoorRfh
import Derived.Test.YtmnendoloankgaaDoorCol
import Derived.Test.YtmnendoloankgaaDoorSud
namespace Go.Proofs.YtmnendoloankgaaDoor
set_option linter.unusedVariables false
set_option linter.unusedSimpArgs false
open Go.RowKit
open Kit (Chg)
open Sha (v)
open Go.Proofs.YtmnendoloankgaaDoor.One

theorem mem_links_of (i : Nat) : ∀ (n j : Nat) (x s : List Nat), s ∈ links i j n x → ∃ k y, k < n ∧ s = input i (j + k) y ∧ (x.length = 32 → y.length = 32)
  | 0, _, _, _, h => by cases h
  | n + 1, j, x, s, h => by
    rw [links] at h
    rcases List.mem_cons.1 h with e | h
    · exact ⟨0, x, by omega, e, fun h => h⟩
    · obtain ⟨k, y, hk, e, hy⟩ := mem_links_of i n (j + 1) _ s h
      exact ⟨k + 1, y, by omega, by rw [e, show j + 1 + k = j + (k + 1) by omega], fun _ => hy (Sha.sum_length _)⟩
theorem summed_short (b : Nat) (seed ds : List Nat) (ps : List (List Nat)) (hs : seed.length ≤ 64) (hd : ds.length ≤ 269) (hp : ps.length ≤ 269) (hb : last b ≤ 255) (h32 : ∀ p ∈ ps, p.length = 32) (hdl : ∀ x ∈ ds, x ≤ last b) :
    ∀ s ∈ One.summed b seed ds ps, s.length ≤ 100000 := by
  intro s hm
  have hlk : ∀ (i j n : Nat) (x : List Nat), i ≤ 269 → j + n ≤ 255 → x.length = 32 → s ∈ links i j n x → s.length ≤ 100000 := fun i j n x hi hjn hx h => by
    obtain ⟨k, y, hk, rfl, hy⟩ := mem_links_of i n j x s h
    have h1 := input_len2 i (j + k) (by omega) (by omega) y
    have := hy hx
    omega
  have hpg : ∀ i, i < ps.length → (ps.getD i []).length = 32 := fun i hi => h32 _ (getD_mem _ _ _ hi)
  unfold One.summed at hm
  rcases List.mem_append.1 hm with h | h
  · obtain ⟨i, hi, h⟩ := List.mem_flatMap.1 h
    have hi := List.mem_range.1 hi
    rcases List.mem_cons.1 h with e | h
    · rw [e]
      unfold inner secretIn
      rw [List.length_append, xorL_length, key64_length hs, List.length_append]
      have h1 := num_len (n := i) (by omega)
      have h2 : secretB.length = 6 := rfl
      omega
    · rcases List.mem_cons.1 h with e | h
      · rw [e, outer_len hs]; omega
      · exact hlk i 0 _ _ (by omega) (by omega) (secret_length _ _) h
  · rcases List.mem_append.1 h with h | h
    · obtain ⟨i, hi, h⟩ := List.mem_flatMap.1 h
      have hi := List.mem_range.1 hi
      have hd : ds.getD i 0 ≤ last b := by
        rw [List.getD_eq_getElem?_getD]
        cases hg : ds[i]? with
        | none => exact Nat.zero_le _
        | some z => exact hdl z (List.mem_of_getElem? hg)
      exact hlk i _ _ _ (by omega) (by omega) (hpg i hi) h
    · rcases List.mem_cons.1 h with e | h
      · rw [e, endsS_length _ _ _ _ (fun i hi => by rw [starts_getD _ _ _ hi]; exact secret_length _ _)]; omega
      · have e := List.mem_singleton.1 h
        rw [e, endsS_length _ _ _ _ hpg]; omega
theorem summed_count (b : Nat) (seed ds : List Nat) (ps : List (List Nat)) (hd : ds.length ≤ 269) (hp : ps.length ≤ 269) (hb : last b ≤ 255) : (One.summed b seed ds ps).length ≤ 1000000 := by
  rw [← summed_eq, List.length_append, List.length_append]
  have h1 := flat_len (laysS b seed) 257 (fun i => by rw [laysS_len]; omega) ds.length
  have h2 := flat_len (laysP b ds ps) 255 (fun i => Nat.le_trans (laysP_len b ds ps i) hb) ps.length
  simp only [List.length_cons, List.length_nil]
  omega
/-- Where the strings of the helper collide, the helper collision says so. -/
theorem collides_of (b : Nat) (seed ds : List Nat) (ps : List (List Nat)) (hs : seed.length ≤ 64) (hd : ds.length ≤ 269) (hp : ps.length ≤ 269) (hb : last b ≤ 255) (h32 : ∀ p ∈ ps, p.length = 32) (hdl : ∀ x ∈ ds, x ≤ last b) (hC : Coll (One.summed b seed ds ps))
    (a : Option Addr) (cap L : Nat) (vs : List ByteArray) (hl : vs.length = L) (hv : vs.map nb = One.summed b seed ds ps) (w : World) (hS : StrsAt w a vs) :
    Calls Tryd.prog 44 #[.slice a L cap] w fun e w' => e = .returned (.bool true) ∧ Below w.heap.size w w' := by
  refine collision_true a cap L vs hl ?_ ?_ (by rw [hv]; exact hC) w hS
  · have h := congrArg List.length hv
    rw [List.length_map, hl] at h
    rw [h]
    exact summed_count b seed ds ps hd hp hb
  · intro s hs2
    have h : nb s ∈ vs.map nb := List.mem_map.2 ⟨s, hs2, rfl⟩
    rw [hv] at h
    rw [← nb_length]
    exact summed_short b seed ds ps hs hd hp hb h32 hdl _ h
set_option maxRecDepth 100000 in
set_option maxHeartbeats 2000000 in
theorem nofit_OnetimeOnly (B S : Int) (seed dg : ByteArray) (a : Option Addr) (cap L : Nat) (ss : List ByteArray) (hLe : ss.length = L) (hL9 : L ≤ 9223372036854775807) (hf : ¬ Fits B S (nb seed) (nb dg)) (w : World) (hS : StrsAt w a ss) (hL : Laid w) :
    Calls Tryd.prog 10 #[.agg #[.int .i64 (B), .int .i64 (S)], .string seed, .string dg, .slice a L cap] w fun e w' => e = .returned (.bool true) ∧ Below w.heap.size w w' := by
  have HL := Lib.hid hL
  have HS := Lib.hid hS
  have HF := Lib.hid (fun w => fits_any B S seed dg w)
  rw [decide_eq_false hf] at HF
  clear hL hf hS
  go_enter Tryd.func10, Tryd.ntmps10
  go_upto_region 1 with fail
  refine wp_over (fun W => Hid (W.heap[w.heap.size]? = some (.cells #[.int .i64 (B), .int .i64 (S)] 23 (0, 0))) ∧ Hid (Below w.heap.size w W) ∧ Hid (W.heap.size = w.heap.size + 1)) ⟨heap_alloc_new _ _, (Below.refl _ _).alloc (Nat.le_refl _) _, by show _ = _; simp⟩ ?_
  rintro W ⟨HG, HB, HWN⟩
  obtain ⟨N, hN⟩ := ex_eq w.heap.size
  rw [hN] at HG HB HWN ⊢
  have HN := Lib.hid hN
  clear hN
  have HCE : Hid (∀ V, Below (N + 1) W V → V.cell? ⟨N, 0, none⟩ = some (.int .i64 (B)) ∧ V.cell? ⟨N, 1, none⟩ = some (.int .i64 (S))) := Lib.hid (fun V h => by
    have hg := (h.block N (Nat.lt_succ_self _)).trans HG.out
    exact ⟨(cell_of_row _ _ _ _ _ _ hg).trans rfl, (cell_of_row _ _ _ _ _ _ hg).trans rfl⟩)
  have HST : Hid (∀ V V', Below (N + 1) W V → Below V.heap.size V V' → Below (N + 1) W V') := Lib.hid (fun V V' h h' => h.trans (h'.mono (by have := h.size; have := HWN.out; omega)))
  have HEND : Hid (∀ V, Below (N + 1) W V → Below w.heap.size w V) := Lib.hid (fun V h => by rw [HN.out]; exact HB.out.trans (h.mono (Nat.le_succ N)))
  have HLD : Hid (∀ V, Below (N + 1) W V → Laid V) := Lib.hid (fun V h => HL.out.later (HEND.out V h) (Nat.le_refl _))
  have HCUR : Hid (Below (N + 1) W W) := Lib.hid (Below.refl _ _)
  obtain ⟨c0, c1⟩ := HCE.out _ HCUR.out
  have HPV := Lib.hid (HS.out.later (by rw [HN.out]; exact HB.out))
  go_wp2_with (first
    | (go_at_call 18
       (with_reducible refine (awake12 _ (HLD.out _ HCUR.out)).mono ?_)
       rintro e w2 ⟨rfl, h2⟩
       replace HCUR := Lib.hid (HST.out _ _ HCUR.out h2)
       (try replace HPV := Lib.hid (HPV.out.later h2))
       (try replace HSV := Lib.hid (HSV.out.later h2))
       clear h2
       (try clear c0 c1)
       obtain ⟨c0, c1⟩ := HCE.out _ HCUR.out)
    | (go_at_call 43
       (with_reducible refine (HF.out _).mono ?_)
       rintro e w3 ⟨rfl, h3⟩
       replace HCUR := Lib.hid (HST.out _ _ HCUR.out h3)
       (try replace HPV := Lib.hid (HPV.out.later h3))
       (try replace HSV := Lib.hid (HSV.out.later h3))
       clear h3
       (try clear c0 c1)
       obtain ⟨c0, c1⟩ := HCE.out _ HCUR.out))
  go_ret
  exact ⟨by first | rfl | simp, HEND.out _ HCUR.out⟩
set_option maxRecDepth 100000 in
set_option maxHeartbeats 2000000 in
theorem only_refused (b : Nat) (hB : Bits b) (seed dg : ByteArray) (hn : 0 < dg.size) (hn2 : dg.size ≤ 32) (hs : seed.size = 32) (hSm : SP (b : Int) (dg.size : Int)) (a : Option Addr) (cap L : Nat) (ss : List ByteArray) (hLe : ss.length = L) (hL9 : L ≤ 9223372036854775807) (hA : ¬ Acc (b : Int) (dg.size : Int) (pub b (nb seed) (count b dg.size)) (nb dg) (ss.map nb)) (w : World) (hS : StrsAt w a ss) (hL : Laid w) :
    Calls Tryd.prog 10 #[.agg #[.int .i64 (b : Int), .int .i64 (dg.size : Int)], .string seed, .string dg, .slice a L cap] w fun e w' => e = .returned (.bool true) ∧ Below w.heap.size w w' := by
  have HL := Lib.hid hL
  have HS := Lib.hid hS
  have HF := Lib.hid (fun w => fits_any (b : Int) (dg.size : Int) seed dg w)
  rw [show decide (Fits (b : Int) (dg.size : Int) (nb seed) (nb dg)) = true from decide_eq_true ⟨vp_of hB hn hn2, hSm, by rw [nb_length]; exact hs, by rw [nb_length]⟩] at HF
  have HPK := Lib.hid (fun w hL => public_ok b dg.size hB hn hn2 seed hs w hL)
  have HSG := Lib.hid (fun w hL => sign_ok b dg hB hn hn2 seed hs w hL)
  have hC := count_le hB hn2
  have hM := last_le hB
  have HCD : Hid ((One.digits b (nb dg)).length = count b dg.size) := Lib.hid (by rw [digits_length hB, nb_length])
  have hne : ss.map nb ≠ sign (nb seed) (One.digits b (nb dg)) := fun e => hA ⟨vp_of hB hn hn2, by rw [nb_length], by rw [e, sign_length, HCD.out, Int.toNat_natCast, nb_length], fun s hs2 => by
    rw [e] at hs2
    obtain ⟨i, _, he⟩ := List.mem_map.1 hs2
    rw [← he]
    exact chain_length _ _ _ _ (secret_length _ _), by rw [e, Int.toNat_natCast, verifies b _ _ (digits_le _), HCD.out]⟩
  obtain ⟨T, hT⟩ := ex_eq (pub b (nb seed) (count b dg.size))
  rw [hT] at HPK hA
  obtain ⟨SGN, hSGN⟩ := ex_eq (sign (nb seed) (One.digits b (nb dg)))
  rw [hSGN] at HSG hne
  have HVF : Hid (∀ k : ByteArray, nb k = T → ∀ w, StrsAt w a ss → Laid w → Calls Tryd.prog 40 #[.agg #[.int .i64 (b : Int), .int .i64 (dg.size : Int)], .string k, .string dg, .slice a L cap] w fun e w' => e = .returned (.bool false) ∧ Below w.heap.size w w') := Lib.hid (fun k hk w hS hL => by
    have h := verify_any (b : Int) (dg.size : Int) k dg a cap L ss hLe (by omega) w hS hL
    rw [hk] at h
    rw [decide_eq_false hA] at h
    exact h)
  obtain ⟨C, hCe⟩ := ex_eq (count b dg.size)
  have HCQ := Lib.hid hCe
  rw [hCe] at hC
  have HEQ : Hid (∀ g (vs : List ByteArray), vs.length = C → vs.map nb = SGN → ∀ w, StrsAt w (some ⟨g, 0, none⟩) vs → StrsAt w a ss → Calls Tryd.prog 37 #[.slice (some ⟨g, 0, none⟩) C C, .slice a L cap] w fun e w' => e = .returned (.bool false) ∧ Below w.heap.size w w') := Lib.hid (fun g vs hl hv w h1 h2 => by
    have h := equal_any (some ⟨g, 0, none⟩) a C cap C L vs ss hl hLe (by omega) (by omega) w h1 h2
    rw [decide_eq_false (fun e => hne (by rw [← e]; exact hv))] at h
    exact h)
  clear hL hS hs hT hB hn hn2 hCe hSGN hA hne hSm hLe
  go_enter Tryd.func10, Tryd.ntmps10
  go_upto_region 1 with fail
  refine wp_over (fun W => Hid (W.heap[w.heap.size]? = some (.cells #[.int .i64 (b : Int), .int .i64 (dg.size : Int)] 23 (0, 0))) ∧ Hid (Below w.heap.size w W) ∧ Hid (W.heap.size = w.heap.size + 1)) ⟨heap_alloc_new _ _, (Below.refl _ _).alloc (Nat.le_refl _) _, by show _ = _; simp⟩ ?_
  rintro W ⟨HG, HB, HWN⟩
  obtain ⟨N, hN⟩ := ex_eq w.heap.size
  rw [hN] at HG HB HWN ⊢
  have HN := Lib.hid hN
  clear hN
  have HCE : Hid (∀ V, Below (N + 1) W V → V.cell? ⟨N, 0, none⟩ = some (.int .i64 (b : Int)) ∧ V.cell? ⟨N, 1, none⟩ = some (.int .i64 (dg.size : Int))) := Lib.hid (fun V h => by
    have hg := (h.block N (Nat.lt_succ_self _)).trans HG.out
    exact ⟨(cell_of_row _ _ _ _ _ _ hg).trans rfl, (cell_of_row _ _ _ _ _ _ hg).trans rfl⟩)
  have HST : Hid (∀ V V', Below (N + 1) W V → Below V.heap.size V V' → Below (N + 1) W V') := Lib.hid (fun V V' h h' => h.trans (h'.mono (by have := h.size; have := HWN.out; omega)))
  have HEND : Hid (∀ V, Below (N + 1) W V → Below w.heap.size w V) := Lib.hid (fun V h => by rw [HN.out]; exact HB.out.trans (h.mono (Nat.le_succ N)))
  have HLD : Hid (∀ V, Below (N + 1) W V → Laid V) := Lib.hid (fun V h => HL.out.later (HEND.out V h) (Nat.le_refl _))
  have HCUR : Hid (Below (N + 1) W W) := Lib.hid (Below.refl _ _)
  obtain ⟨c0, c1⟩ := HCE.out _ HCUR.out
  have HPV := Lib.hid (HS.out.later (by rw [HN.out]; exact HB.out))
  go_wp2_with (first
    | (go_at_call 18
       (with_reducible refine (awake12 _ (HLD.out _ HCUR.out)).mono ?_)
       rintro e w2 ⟨rfl, h2⟩
       replace HCUR := Lib.hid (HST.out _ _ HCUR.out h2)
       (try replace HPV := Lib.hid (HPV.out.later h2))
       (try replace HSV := Lib.hid (HSV.out.later h2))
       clear h2
       (try clear c0 c1)
       obtain ⟨c0, c1⟩ := HCE.out _ HCUR.out)
    | (go_at_call 43
       (with_reducible refine (HF.out _).mono ?_)
       rintro e w3 ⟨rfl, h3⟩
       replace HCUR := Lib.hid (HST.out _ _ HCUR.out h3)
       (try replace HPV := Lib.hid (HPV.out.later h3))
       (try replace HSV := Lib.hid (HSV.out.later h3))
       clear h3
       (try clear c0 c1)
       obtain ⟨c0, c1⟩ := HCE.out _ HCUR.out)
    | (go_at_call 19
       (with_reducible refine (params_any (b : Int) (dg.size : Int) _).mono ?_)
       rintro e w5 ⟨rfl, h5⟩
       replace HCUR := Lib.hid (HST.out _ _ HCUR.out h5)
       (try replace HPV := Lib.hid (HPV.out.later h5))
       (try replace HSV := Lib.hid (HSV.out.later h5))
       clear h5
       (try clear c0 c1)
       obtain ⟨c0, c1⟩ := HCE.out _ HCUR.out)
    | (go_at_call 34
       (with_reducible refine (HPK.out _ (HLD.out _ HCUR.out)).mono ?_)
       rintro e w6 ⟨k6, rfl, hk6, h6⟩
       have HK6 := Lib.hid hk6
       have hkk6 : (k6.toList == k6.toList) = true := by simp
       clear hk6
       (try replace HPV := Lib.hid (HPV.out.later h6))
       replace HCUR := Lib.hid (HST.out _ _ HCUR.out h6)
       (try replace HSV := Lib.hid (HSV.out.later h6))
       clear h6
       (try clear c0 c1)
       obtain ⟨c0, c1⟩ := HCE.out _ HCUR.out)
    | (go_at_call 35
       (with_reducible refine (HSG.out _ (HLD.out _ HCUR.out)).mono ?_)
       rintro e w7 ⟨g7, L7, vs7, rfl, hvl7, hLC7, hvs7, hst7, _, h7⟩
       rw [HCQ.out] at hLC7
       have hLC8 := hLC7.symm
       subst hLC8
       have HVL := Lib.hid hvl7
       have HVS := Lib.hid hvs7
       have HSV := Lib.hid hst7
       clear hvl7 hvs7 hst7 hLC7
       (try replace HPV := Lib.hid (HPV.out.later h7))
       replace HCUR := Lib.hid (HST.out _ _ HCUR.out h7)
       clear h7
       (try clear c0 c1)
       obtain ⟨c0, c1⟩ := HCE.out _ HCUR.out)
    | (go_at_call 40
       (with_reducible refine (HVF.out _ HK6.out _ HPV.out (HLD.out _ HCUR.out)).mono ?_)
       rintro e w9 ⟨rfl, h9⟩
       replace HCUR := Lib.hid (HST.out _ _ HCUR.out h9)
       (try replace HPV := Lib.hid (HPV.out.later h9))
       (try replace HSV := Lib.hid (HSV.out.later h9))
       clear h9
       (try clear c0 c1)
       obtain ⟨c0, c1⟩ := HCE.out _ HCUR.out)
    | (go_at_call 37
       (with_reducible refine (HEQ.out g7 vs7 HVL.out HVS.out _ HSV.out HPV.out).mono ?_)
       rintro e w10 ⟨rfl, h10⟩
       replace HCUR := Lib.hid (HST.out _ _ HCUR.out h10)
       (try replace HPV := Lib.hid (HPV.out.later h10))
       (try replace HSV := Lib.hid (HSV.out.later h10))
       clear h10
       (try clear c0 c1)
       obtain ⟨c0, c1⟩ := HCE.out _ HCUR.out))
  go_ret
  exact ⟨by first | rfl | simp, HEND.out _ HCUR.out⟩
set_option maxRecDepth 100000 in
set_option maxHeartbeats 2000000 in
theorem only_same (b : Nat) (hB : Bits b) (seed dg : ByteArray) (hn : 0 < dg.size) (hn2 : dg.size ≤ 32) (hs : seed.size = 32) (hSm : SP (b : Int) (dg.size : Int)) (a : Option Addr) (cap L : Nat) (ss : List ByteArray) (hLe : ss.length = L) (hL9 : L ≤ 9223372036854775807) (hA : Acc (b : Int) (dg.size : Int) (pub b (nb seed) (count b dg.size)) (nb dg) (ss.map nb)) (he : ss.map nb = sign (nb seed) (One.digits b (nb dg))) (w : World) (hS : StrsAt w a ss) (hL : Laid w) :
    Calls Tryd.prog 10 #[.agg #[.int .i64 (b : Int), .int .i64 (dg.size : Int)], .string seed, .string dg, .slice a L cap] w fun e w' => e = .returned (.bool true) ∧ Below w.heap.size w w' := by
  have HL := Lib.hid hL
  have HS := Lib.hid hS
  have HF := Lib.hid (fun w => fits_any (b : Int) (dg.size : Int) seed dg w)
  rw [show decide (Fits (b : Int) (dg.size : Int) (nb seed) (nb dg)) = true from decide_eq_true ⟨vp_of hB hn hn2, hSm, by rw [nb_length]; exact hs, by rw [nb_length]⟩] at HF
  have HPK := Lib.hid (fun w hL => public_ok b dg.size hB hn hn2 seed hs w hL)
  have HSG := Lib.hid (fun w hL => sign_ok b dg hB hn hn2 seed hs w hL)
  have hC := count_le hB hn2
  have hM := last_le hB
  have HCD : Hid ((One.digits b (nb dg)).length = count b dg.size) := Lib.hid (by rw [digits_length hB, nb_length])
  obtain ⟨T, hT⟩ := ex_eq (pub b (nb seed) (count b dg.size))
  rw [hT] at HPK hA
  obtain ⟨SGN, hSGN⟩ := ex_eq (sign (nb seed) (One.digits b (nb dg)))
  rw [hSGN] at HSG he
  have HVF : Hid (∀ k : ByteArray, nb k = T → ∀ w, StrsAt w a ss → Laid w → Calls Tryd.prog 40 #[.agg #[.int .i64 (b : Int), .int .i64 (dg.size : Int)], .string k, .string dg, .slice a L cap] w fun e w' => e = .returned (.bool true) ∧ Below w.heap.size w w') := Lib.hid (fun k hk w hS hL => by
    have h := verify_any (b : Int) (dg.size : Int) k dg a cap L ss hLe (by omega) w hS hL
    rw [hk] at h
    rw [decide_eq_true hA] at h
    exact h)
  obtain ⟨C, hCe⟩ := ex_eq (count b dg.size)
  have HCQ := Lib.hid hCe
  rw [hCe] at hC
  have HEQ : Hid (∀ g (vs : List ByteArray), vs.length = C → vs.map nb = SGN → ∀ w, StrsAt w (some ⟨g, 0, none⟩) vs → StrsAt w a ss → Calls Tryd.prog 37 #[.slice (some ⟨g, 0, none⟩) C C, .slice a L cap] w fun e w' => e = .returned (.bool true) ∧ Below w.heap.size w w') := Lib.hid (fun g vs hl hv w h1 h2 => by
    have h := equal_any (some ⟨g, 0, none⟩) a C cap C L vs ss hl hLe (by omega) (by omega) w h1 h2
    rw [decide_eq_true (List.map_inj_right (fun _ _ h => nb_inj h) |>.1 (hv.trans he.symm))] at h
    exact h)
  clear hL hS hs hT hB hn hn2 hCe hSGN hA he hSm hLe
  go_enter Tryd.func10, Tryd.ntmps10
  go_upto_region 1 with fail
  refine wp_over (fun W => Hid (W.heap[w.heap.size]? = some (.cells #[.int .i64 (b : Int), .int .i64 (dg.size : Int)] 23 (0, 0))) ∧ Hid (Below w.heap.size w W) ∧ Hid (W.heap.size = w.heap.size + 1)) ⟨heap_alloc_new _ _, (Below.refl _ _).alloc (Nat.le_refl _) _, by show _ = _; simp⟩ ?_
  rintro W ⟨HG, HB, HWN⟩
  obtain ⟨N, hN⟩ := ex_eq w.heap.size
  rw [hN] at HG HB HWN ⊢
  have HN := Lib.hid hN
  clear hN
  have HCE : Hid (∀ V, Below (N + 1) W V → V.cell? ⟨N, 0, none⟩ = some (.int .i64 (b : Int)) ∧ V.cell? ⟨N, 1, none⟩ = some (.int .i64 (dg.size : Int))) := Lib.hid (fun V h => by
    have hg := (h.block N (Nat.lt_succ_self _)).trans HG.out
    exact ⟨(cell_of_row _ _ _ _ _ _ hg).trans rfl, (cell_of_row _ _ _ _ _ _ hg).trans rfl⟩)
  have HST : Hid (∀ V V', Below (N + 1) W V → Below V.heap.size V V' → Below (N + 1) W V') := Lib.hid (fun V V' h h' => h.trans (h'.mono (by have := h.size; have := HWN.out; omega)))
  have HEND : Hid (∀ V, Below (N + 1) W V → Below w.heap.size w V) := Lib.hid (fun V h => by rw [HN.out]; exact HB.out.trans (h.mono (Nat.le_succ N)))
  have HLD : Hid (∀ V, Below (N + 1) W V → Laid V) := Lib.hid (fun V h => HL.out.later (HEND.out V h) (Nat.le_refl _))
  have HCUR : Hid (Below (N + 1) W W) := Lib.hid (Below.refl _ _)
  obtain ⟨c0, c1⟩ := HCE.out _ HCUR.out
  have HPV := Lib.hid (HS.out.later (by rw [HN.out]; exact HB.out))
  go_wp2_with (first
    | (go_at_call 18
       (with_reducible refine (awake12 _ (HLD.out _ HCUR.out)).mono ?_)
       rintro e w2 ⟨rfl, h2⟩
       replace HCUR := Lib.hid (HST.out _ _ HCUR.out h2)
       (try replace HPV := Lib.hid (HPV.out.later h2))
       (try replace HSV := Lib.hid (HSV.out.later h2))
       clear h2
       (try clear c0 c1)
       obtain ⟨c0, c1⟩ := HCE.out _ HCUR.out)
    | (go_at_call 43
       (with_reducible refine (HF.out _).mono ?_)
       rintro e w3 ⟨rfl, h3⟩
       replace HCUR := Lib.hid (HST.out _ _ HCUR.out h3)
       (try replace HPV := Lib.hid (HPV.out.later h3))
       (try replace HSV := Lib.hid (HSV.out.later h3))
       clear h3
       (try clear c0 c1)
       obtain ⟨c0, c1⟩ := HCE.out _ HCUR.out)
    | (go_at_call 19
       (with_reducible refine (params_any (b : Int) (dg.size : Int) _).mono ?_)
       rintro e w5 ⟨rfl, h5⟩
       replace HCUR := Lib.hid (HST.out _ _ HCUR.out h5)
       (try replace HPV := Lib.hid (HPV.out.later h5))
       (try replace HSV := Lib.hid (HSV.out.later h5))
       clear h5
       (try clear c0 c1)
       obtain ⟨c0, c1⟩ := HCE.out _ HCUR.out)
    | (go_at_call 34
       (with_reducible refine (HPK.out _ (HLD.out _ HCUR.out)).mono ?_)
       rintro e w6 ⟨k6, rfl, hk6, h6⟩
       have HK6 := Lib.hid hk6
       have hkk6 : (k6.toList == k6.toList) = true := by simp
       clear hk6
       (try replace HPV := Lib.hid (HPV.out.later h6))
       replace HCUR := Lib.hid (HST.out _ _ HCUR.out h6)
       (try replace HSV := Lib.hid (HSV.out.later h6))
       clear h6
       (try clear c0 c1)
       obtain ⟨c0, c1⟩ := HCE.out _ HCUR.out)
    | (go_at_call 35
       (with_reducible refine (HSG.out _ (HLD.out _ HCUR.out)).mono ?_)
       rintro e w7 ⟨g7, L7, vs7, rfl, hvl7, hLC7, hvs7, hst7, _, h7⟩
       rw [HCQ.out] at hLC7
       have hLC8 := hLC7.symm
       subst hLC8
       have HVL := Lib.hid hvl7
       have HVS := Lib.hid hvs7
       have HSV := Lib.hid hst7
       clear hvl7 hvs7 hst7 hLC7
       (try replace HPV := Lib.hid (HPV.out.later h7))
       replace HCUR := Lib.hid (HST.out _ _ HCUR.out h7)
       clear h7
       (try clear c0 c1)
       obtain ⟨c0, c1⟩ := HCE.out _ HCUR.out)
    | (go_at_call 40
       (with_reducible refine (HVF.out _ HK6.out _ HPV.out (HLD.out _ HCUR.out)).mono ?_)
       rintro e w9 ⟨rfl, h9⟩
       replace HCUR := Lib.hid (HST.out _ _ HCUR.out h9)
       (try replace HPV := Lib.hid (HPV.out.later h9))
       (try replace HSV := Lib.hid (HSV.out.later h9))
       clear h9
       (try clear c0 c1)
       obtain ⟨c0, c1⟩ := HCE.out _ HCUR.out)
    | (go_at_call 37
       (with_reducible refine (HEQ.out g7 vs7 HVL.out HVS.out _ HSV.out HPV.out).mono ?_)
       rintro e w10 ⟨rfl, h10⟩
       replace HCUR := Lib.hid (HST.out _ _ HCUR.out h10)
       (try replace HPV := Lib.hid (HPV.out.later h10))
       (try replace HSV := Lib.hid (HSV.out.later h10))
       clear h10
       (try clear c0 c1)
       obtain ⟨c0, c1⟩ := HCE.out _ HCUR.out))
  go_ret
  exact ⟨by first | rfl | simp, HEND.out _ HCUR.out⟩
set_option maxRecDepth 100000 in
set_option maxHeartbeats 2000000 in
theorem only_other (b : Nat) (hB : Bits b) (seed dg : ByteArray) (hn : 0 < dg.size) (hn2 : dg.size ≤ 32) (hs : seed.size = 32) (hSm : SP (b : Int) (dg.size : Int)) (a : Option Addr) (cap L : Nat) (ss : List ByteArray) (hLe : ss.length = L) (hL9 : L ≤ 9223372036854775807) (hA : Acc (b : Int) (dg.size : Int) (pub b (nb seed) (count b dg.size)) (nb dg) (ss.map nb)) (hne : ss.map nb ≠ sign (nb seed) (One.digits b (nb dg))) (w : World) (hS : StrsAt w a ss) (hL : Laid w) :
    Calls Tryd.prog 10 #[.agg #[.int .i64 (b : Int), .int .i64 (dg.size : Int)], .string seed, .string dg, .slice a L cap] w fun e w' => e = .returned (.bool true) ∧ Below w.heap.size w w' := by
  have HL := Lib.hid hL
  have HS := Lib.hid hS
  have HF := Lib.hid (fun w => fits_any (b : Int) (dg.size : Int) seed dg w)
  rw [show decide (Fits (b : Int) (dg.size : Int) (nb seed) (nb dg)) = true from decide_eq_true ⟨vp_of hB hn hn2, hSm, by rw [nb_length]; exact hs, by rw [nb_length]⟩] at HF
  have HPK := Lib.hid (fun w hL => public_ok b dg.size hB hn hn2 seed hs w hL)
  have HSG := Lib.hid (fun w hL => sign_ok b dg hB hn hn2 seed hs w hL)
  have hC := count_le hB hn2
  have hM := last_le hB
  have HCD : Hid ((One.digits b (nb dg)).length = count b dg.size) := Lib.hid (by rw [digits_length hB, nb_length])
  have hLC : L = count b dg.size := by
    have h := hA.2.2.1
    rwa [List.length_map, hLe, Int.toNat_natCast, nb_length] at h
  have h32 : ∀ s ∈ ss, s.size = 32 := fun s hs2 => by
    rw [← nb_length]
    exact hA.2.2.2.1 _ (List.mem_map.2 ⟨s, hs2, rfl⟩)
  have hrec : recover b (One.digits b (nb dg)) (ss.map nb) = pub b (nb seed) (One.digits b (nb dg)).length := by
    have h := hA.2.2.2.2
    rw [Int.toNat_natCast] at h
    rw [h, HCD.out]
  have hcol : Coll (One.summed b (nb seed) (One.digits b (nb dg)) (ss.map nb)) := One.only (by rw [List.length_map, hLe, HCD.out]; exact hLC) (fun s hs2 => by
    obtain ⟨t, ht, rfl⟩ := List.mem_map.1 hs2
    rw [nb_length]; exact h32 t ht) (digits_le _) hrec hne
  have hpt := fun w hS => refParts_any b dg.size hB hn hn2 a cap L ss hLe (by omega) w hS
  rw [decide_eq_true ⟨hLC, h32⟩] at hpt
  have HPT := Lib.hid hpt
  have HSU := Lib.hid (fun w hS => summed_ok b hB seed dg hs hn hn2 a cap L ss hLe hLC h32 w hS)
  have HCO := Lib.hid (collides_of b (nb seed) (One.digits b (nb dg)) (ss.map nb) (by rw [nb_length]; omega) (by rw [HCD.out]; exact hC) (by rw [List.length_map, hLe, hLC]; exact hC) hM (fun p hp => by
    obtain ⟨t, ht, rfl⟩ := List.mem_map.1 hp
    rw [nb_length]; exact h32 t ht) (digits_le _) hcol)
  obtain ⟨SU, hSU⟩ := ex_eq (One.summed b (nb seed) (One.digits b (nb dg)) (ss.map nb))
  rw [hSU] at HSU HCO
  clear hpt hrec hcol hSU
  obtain ⟨T, hT⟩ := ex_eq (pub b (nb seed) (count b dg.size))
  rw [hT] at HPK hA
  obtain ⟨SGN, hSGN⟩ := ex_eq (sign (nb seed) (One.digits b (nb dg)))
  rw [hSGN] at HSG hne
  have HVF : Hid (∀ k : ByteArray, nb k = T → ∀ w, StrsAt w a ss → Laid w → Calls Tryd.prog 40 #[.agg #[.int .i64 (b : Int), .int .i64 (dg.size : Int)], .string k, .string dg, .slice a L cap] w fun e w' => e = .returned (.bool true) ∧ Below w.heap.size w w') := Lib.hid (fun k hk w hS hL => by
    have h := verify_any (b : Int) (dg.size : Int) k dg a cap L ss hLe (by omega) w hS hL
    rw [hk] at h
    rw [decide_eq_true hA] at h
    exact h)
  obtain ⟨C, hCe⟩ := ex_eq (count b dg.size)
  have HCQ := Lib.hid hCe
  rw [hCe] at hC
  have HEQ : Hid (∀ g (vs : List ByteArray), vs.length = C → vs.map nb = SGN → ∀ w, StrsAt w (some ⟨g, 0, none⟩) vs → StrsAt w a ss → Calls Tryd.prog 37 #[.slice (some ⟨g, 0, none⟩) C C, .slice a L cap] w fun e w' => e = .returned (.bool false) ∧ Below w.heap.size w w') := Lib.hid (fun g vs hl hv w h1 h2 => by
    have h := equal_any (some ⟨g, 0, none⟩) a C cap C L vs ss hl hLe (by omega) (by omega) w h1 h2
    rw [decide_eq_false (fun e => hne (by rw [← e]; exact hv))] at h
    exact h)
  clear hL hS hs hT hB hn hn2 hCe hSGN hA hne hSm hLe hLC h32
  go_enter Tryd.func10, Tryd.ntmps10
  go_upto_region 1 with fail
  refine wp_over (fun W => Hid (W.heap[w.heap.size]? = some (.cells #[.int .i64 (b : Int), .int .i64 (dg.size : Int)] 23 (0, 0))) ∧ Hid (Below w.heap.size w W) ∧ Hid (W.heap.size = w.heap.size + 1)) ⟨heap_alloc_new _ _, (Below.refl _ _).alloc (Nat.le_refl _) _, by show _ = _; simp⟩ ?_
  rintro W ⟨HG, HB, HWN⟩
  obtain ⟨N, hN⟩ := ex_eq w.heap.size
  rw [hN] at HG HB HWN ⊢
  have HN := Lib.hid hN
  clear hN
  have HCE : Hid (∀ V, Below (N + 1) W V → V.cell? ⟨N, 0, none⟩ = some (.int .i64 (b : Int)) ∧ V.cell? ⟨N, 1, none⟩ = some (.int .i64 (dg.size : Int))) := Lib.hid (fun V h => by
    have hg := (h.block N (Nat.lt_succ_self _)).trans HG.out
    exact ⟨(cell_of_row _ _ _ _ _ _ hg).trans rfl, (cell_of_row _ _ _ _ _ _ hg).trans rfl⟩)
  have HST : Hid (∀ V V', Below (N + 1) W V → Below V.heap.size V V' → Below (N + 1) W V') := Lib.hid (fun V V' h h' => h.trans (h'.mono (by have := h.size; have := HWN.out; omega)))
  have HEND : Hid (∀ V, Below (N + 1) W V → Below w.heap.size w V) := Lib.hid (fun V h => by rw [HN.out]; exact HB.out.trans (h.mono (Nat.le_succ N)))
  have HLD : Hid (∀ V, Below (N + 1) W V → Laid V) := Lib.hid (fun V h => HL.out.later (HEND.out V h) (Nat.le_refl _))
  have HCUR : Hid (Below (N + 1) W W) := Lib.hid (Below.refl _ _)
  obtain ⟨c0, c1⟩ := HCE.out _ HCUR.out
  have HPV := Lib.hid (HS.out.later (by rw [HN.out]; exact HB.out))
  go_wp2_with (first
    | (go_at_call 18
       (with_reducible refine (awake12 _ (HLD.out _ HCUR.out)).mono ?_)
       rintro e w2 ⟨rfl, h2⟩
       replace HCUR := Lib.hid (HST.out _ _ HCUR.out h2)
       (try replace HPV := Lib.hid (HPV.out.later h2))
       (try replace HSV := Lib.hid (HSV.out.later h2))
       clear h2
       (try clear c0 c1)
       obtain ⟨c0, c1⟩ := HCE.out _ HCUR.out)
    | (go_at_call 43
       (with_reducible refine (HF.out _).mono ?_)
       rintro e w3 ⟨rfl, h3⟩
       replace HCUR := Lib.hid (HST.out _ _ HCUR.out h3)
       (try replace HPV := Lib.hid (HPV.out.later h3))
       (try replace HSV := Lib.hid (HSV.out.later h3))
       clear h3
       (try clear c0 c1)
       obtain ⟨c0, c1⟩ := HCE.out _ HCUR.out)
    | (go_at_call 19
       (with_reducible refine (params_any (b : Int) (dg.size : Int) _).mono ?_)
       rintro e w5 ⟨rfl, h5⟩
       replace HCUR := Lib.hid (HST.out _ _ HCUR.out h5)
       (try replace HPV := Lib.hid (HPV.out.later h5))
       (try replace HSV := Lib.hid (HSV.out.later h5))
       clear h5
       (try clear c0 c1)
       obtain ⟨c0, c1⟩ := HCE.out _ HCUR.out)
    | (go_at_call 34
       (with_reducible refine (HPK.out _ (HLD.out _ HCUR.out)).mono ?_)
       rintro e w6 ⟨k6, rfl, hk6, h6⟩
       have HK6 := Lib.hid hk6
       have hkk6 : (k6.toList == k6.toList) = true := by simp
       clear hk6
       (try replace HPV := Lib.hid (HPV.out.later h6))
       replace HCUR := Lib.hid (HST.out _ _ HCUR.out h6)
       (try replace HSV := Lib.hid (HSV.out.later h6))
       clear h6
       (try clear c0 c1)
       obtain ⟨c0, c1⟩ := HCE.out _ HCUR.out)
    | (go_at_call 35
       (with_reducible refine (HSG.out _ (HLD.out _ HCUR.out)).mono ?_)
       rintro e w7 ⟨g7, L7, vs7, rfl, hvl7, hLC7, hvs7, hst7, _, h7⟩
       rw [HCQ.out] at hLC7
       have hLC8 := hLC7.symm
       subst hLC8
       have HVL := Lib.hid hvl7
       have HVS := Lib.hid hvs7
       have HSV := Lib.hid hst7
       clear hvl7 hvs7 hst7 hLC7
       (try replace HPV := Lib.hid (HPV.out.later h7))
       replace HCUR := Lib.hid (HST.out _ _ HCUR.out h7)
       clear h7
       (try clear c0 c1)
       obtain ⟨c0, c1⟩ := HCE.out _ HCUR.out)
    | (go_at_call 40
       (with_reducible refine (HVF.out _ HK6.out _ HPV.out (HLD.out _ HCUR.out)).mono ?_)
       rintro e w9 ⟨rfl, h9⟩
       replace HCUR := Lib.hid (HST.out _ _ HCUR.out h9)
       (try replace HPV := Lib.hid (HPV.out.later h9))
       (try replace HSV := Lib.hid (HSV.out.later h9))
       clear h9
       (try clear c0 c1)
       obtain ⟨c0, c1⟩ := HCE.out _ HCUR.out)
    | (go_at_call 37
       (with_reducible refine (HEQ.out g7 vs7 HVL.out HVS.out _ HSV.out HPV.out).mono ?_)
       rintro e w10 ⟨rfl, h10⟩
       replace HCUR := Lib.hid (HST.out _ _ HCUR.out h10)
       (try replace HPV := Lib.hid (HPV.out.later h10))
       (try replace HSV := Lib.hid (HSV.out.later h10))
       clear h10
       (try clear c0 c1)
       obtain ⟨c0, c1⟩ := HCE.out _ HCUR.out)
    | (go_at_call 41
       (with_reducible refine (HPT.out _ HPV.out).mono ?_)
       rintro e w11 ⟨rfl, h11⟩
       replace HCUR := Lib.hid (HST.out _ _ HCUR.out h11)
       (try replace HPV := Lib.hid (HPV.out.later h11))
       (try replace HSV := Lib.hid (HSV.out.later h11))
       clear h11
       (try clear c0 c1)
       obtain ⟨c0, c1⟩ := HCE.out _ HCUR.out)
    | (go_at_call 45
       (with_reducible refine (HSU.out _ HPV.out).mono ?_)
       rintro e w12 ⟨x12, L12, vs12, rfl, hv12, hl12, ho12, h12⟩
       obtain ⟨a12, cp12, rfl, hl13, hc12, hS12, hnil12, hlt12⟩ := strs_of_own ho12
       have HV12 := Lib.hid hv12
       have HL12 := Lib.hid hl12
       have HS12 := Lib.hid hS12
       clear hv12 hl12 ho12 hl13 hc12 hS12 hnil12 hlt12
       replace HCUR := Lib.hid (HST.out _ _ HCUR.out h12)
       (try replace HPV := Lib.hid (HPV.out.later h12))
       (try replace HSV := Lib.hid (HSV.out.later h12))
       clear h12
       (try clear c0 c1)
       obtain ⟨c0, c1⟩ := HCE.out _ HCUR.out)
    | (go_at_call 44
       (with_reducible refine (HCO.out a12 cp12 L12 vs12 HL12.out HV12.out _ HS12.out).mono ?_)
       rintro e w13 ⟨rfl, h13⟩
       replace HCUR := Lib.hid (HST.out _ _ HCUR.out h13)
       (try replace HPV := Lib.hid (HPV.out.later h13))
       (try replace HSV := Lib.hid (HSV.out.later h13))
       clear h13
       (try clear c0 c1)
       obtain ⟨c0, c1⟩ := HCE.out _ HCUR.out))
  go_ret
  exact ⟨by first | rfl | simp, HEND.out _ HCUR.out⟩
theorem walk_OnetimeOnly (B S : Int) (seed dg : ByteArray) (a : Option Addr) (cap L : Nat) (ss : List ByteArray) (w : World) (hLe : ss.length = L) (hL9 : L ≤ 9223372036854775807) (hS : StrsAt w a ss) (hL : Laid w) :
    Calls Tryd.prog 10 #[.agg #[.int .i64 B, .int .i64 S], .string seed, .string dg, .slice a L cap] w fun e w' => e = .returned (.bool true) ∧ Below w.heap.size w w' := by
  by_cases hf : Fits B S (nb seed) (nb dg)
  · obtain ⟨hV, hSm, hs, rfl⟩ := hf
    rw [nb_length] at hs
    obtain ⟨b, rfl, hB⟩ := bits_of hV
    have e : ((nb dg).length : Int) = (dg.size : Int) := by rw [nb_length]
    rw [e] at hV hSm ⊢
    have h0 : 0 < dg.size := by have := hV.2.1; omega
    have h2 : dg.size ≤ 32 := by have := hV.2.2; omega
    by_cases hA : Acc (b : Int) (dg.size : Int) (pub b (nb seed) (count b dg.size)) (nb dg) (ss.map nb)
    · by_cases he : ss.map nb = sign (nb seed) (One.digits b (nb dg))
      · exact only_same b hB seed dg h0 h2 hs hSm a cap L ss hLe hL9 hA he w hS hL
      · exact only_other b hB seed dg h0 h2 hs hSm a cap L ss hLe hL9 hA he w hS hL
    · exact only_refused b hB seed dg h0 h2 hs hSm a cap L ss hLe hL9 hA w hS hL
  · exact nofit_OnetimeOnly B S seed dg a cap L ss hLe hL9 hf w hS hL
end Go.Proofs.YtmnendoloankgaaDoor
