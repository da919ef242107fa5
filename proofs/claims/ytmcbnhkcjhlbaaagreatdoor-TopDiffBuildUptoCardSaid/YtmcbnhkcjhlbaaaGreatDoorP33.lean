/- Texts Tcg, Tch, Tci of the proof, each as a section; no premises beyond those that each theorem states. -/
import Derived.Lib.SlBytesConst
import Derived.Test.YtmcbnhkcjhlbaaaGreatDoorP25
import Derived.Test.YtmcbnhkcjhlbaaaGreatDoorP32
set_option linter.unusedVariables false
set_option linter.unusedSimpArgs false
section
namespace Go.Proofs.YtmcbnhkcjhlbaaaGreatDoor.Tp
open Go.RowKit
open Kit (Chg)
open Go.Proofs.YtmcbnhkcjhlbaaaGreatDoor.One

def cut22 (s : BitVec 64) : Ck.Chk.Cut := ⟨2, 9, 2, 2, s⟩
theorem cut22_ok (s : BitVec 64) : (cut22 s).Ok := ⟨by show 1 ≤ 2; decide, by show 2 ≤ 64; decide, by show 2 ≤ 2; decide, by show 2 ≤ 9; decide, by show 9 ≤ 32768; decide, by show 2 ≤ 20; decide⟩
set_option maxRecDepth 100000 in
theorem cuttingOf_any (s : BitVec 64) (w : World) : Calls Tryz.prog 11 #[.int .u64 (Ck.Roll.u s)] w fun e w' => e = .returned (.agg (cRow (cut22 s))) ∧ Below w.heap.size w w' := by
  go_enter Tryz.func11, Tryz.ntmps11
  go_upto_region 1 with fail
  refine wp_over (fun V => Hid (V.heap[w.heap.size]? = some (.cells #[.int .i64 0, .int .i64 0, .int .i64 0, .int .i64 0, .int .u64 0] 42 (0, 0))) ∧ Hid (Below w.heap.size w V)) ⟨Lib.hid (heap_alloc_new _ _), Lib.hid ((Below.refl _ _).alloc (Nat.le_refl _) _)⟩ ?_
  rintro W ⟨HR, HB⟩
  obtain ⟨N, hN⟩ := ex_eq w.heap.size
  rw [hN] at HR ⊢
  have HN := Lib.hid hN
  clear hN
  obtain ⟨z0, z1, z2, z3, z4⟩ := row5 HR.out
  have zf : ∀ i, W.frozen? ⟨N, i, none⟩ = false := fun i => frozen_of_row _ _ _ _ _ HR.out
  go_wp2_with fail
  refine bodyPost_ret (results_cell_row (p := 2) rfl _ _ N 42 (cRow (cut22 s)) (0, 0) _ (by rfl) (putL_full (cur := [.int .i64 0, .int .i64 0, .int .i64 0, .int .i64 0, .int .u64 0]) (vs := [.int .i64 2, .int .i64 9, .int .i64 2, .int .i64 2, .int .u64 (Ck.Roll.u s)]) HR.out rfl) Tryz.underlying42 rfl (by kernel_rfl)) rfl ⟨rfl, ?_⟩
  exact putL_below (by have := HN.out; omega) [.int .i64 2, .int .i64 9, .int .i64 2, .int .i64 2, .int .u64 (Ck.Roll.u s)] 0 _ HB.out
def nm32 (x y : Nat) : ByteArray := strB [x, y] ++ ⟨#[50, 51, 52, 53, 54, 55, 56, 57, 97, 98, 99, 100, 101, 102, 48, 49, 50, 51, 52, 53, 54, 55, 56, 57, 97, 98, 99, 100, 101, 102]⟩
theorem nm32_size (x y : Nat) (hx : x < 256) (hy : y < 256) : (nm32 x y).size = 32 := by
  unfold nm32
  rw [ByteArray.size_append, strB_size _ (by intro z hz; simp at hz; omega)]
  rfl
set_option maxRecDepth 100000 in
theorem name32_any (x y : Nat) (hx : x < 256) (hy : y < 256) (w : World) : Calls Tryz.prog 28 #[.int .u8 (x : Int), .int .u8 (y : Int)] w fun e w' => e = .returned (.string (nm32 x y)) ∧ Below w.heap.size w w' := by
  have hrow : (w.alloc (.cells #[.int .u8 (x : Int), .int .u8 (y : Int)] 5)).heap[w.heap.size]? = some (.cells #[.int .u8 (x : Int), .int .u8 (y : Int)] 5 (0, 0)) := heap_alloc_new _ _
  have hbt : BytesAt (w.alloc (.cells #[.int .u8 (x : Int), .int .u8 (y : Int)] 5)) (some ⟨w.heap.size, 0, none⟩) [x, y] := by
    refine ⟨.inr ⟨w.heap.size, 0, rfl, fun i hi => ?_⟩, by intro z hz; simp at hz; omega, by simp [maxLen]⟩
    rw [Nat.zero_add, cell_of_row _ _ _ _ _ _ hrow]
    have hi : i < 2 := hi
    match i, hi with
    | 0, _ => rfl
    | 1, _ => rfl
  have hcv : (convert 52 9 (.slice (some ⟨w.heap.size, 0, none⟩) 2 2)).run Tryz.prog (w.alloc (.cells #[.int .u8 (x : Int), .int .u8 (y : Int)] 5)) = .ok (.string (strB [x, y])) (w.alloc (.cells #[.int .u8 (x : Int), .int .u8 (y : Int)] 5)) := conv_bytes hbt 2
  have hsz : (strB [x, y]).size = 2 := strB_size _ (by intro z hz; simp at hz; omega)
  have hadd := fun (w : World) => run_string_add_sum (P := Tryz.prog) w (strB [x, y]) ⟨#[50, 51, 52, 53, 54, 55, 56, 57, 97, 98, 99, 100, 101, 102, 48, 49, 50, 51, 52, 53, 54, 55, 56, 57, 97, 98, 99, 100, 101, 102]⟩ (by rw [hsz]; show 2 + 30 ≤ _; omega)
  clear hrow hbt hsz hx hy
  obtain ⟨S, hS⟩ := ex_eq (strB [x, y])
  rw [hS] at hcv hadd
  have HS := Lib.hid hS
  clear hS
  go_enter Tryz.func28, Tryz.ntmps28
  go_wp2_with fail
  go_ret
  refine ⟨?_, (Below.refl _ _).alloc (Nat.le_refl _) _⟩
  rw [← HS.out]; rfl
def keys32 (x : Nat) : KV := ⟨nm32 x 110, nm32 x 115, nm32 x 99, nm32 x 105, nm32 x 116⟩
theorem keys32_ok (x : Nat) (hx : x < 256) : (keys32 x).ok := ⟨nm32_size _ _ hx (by decide), nm32_size _ _ hx (by decide), nm32_size _ _ hx (by decide), nm32_size _ _ hx (by decide), nm32_size _ _ hx (by decide)⟩
set_option maxRecDepth 100000 in
set_option maxHeartbeats 2000000 in
theorem fixedKeys_any (x : Nat) (hx : x < 256) (w : World) : Calls Tryz.prog 9 #[.int .u8 (x : Int)] w fun e w' => e = .returned (.agg (keys32 x).row) ∧ Below w.heap.size w w' := by
  have H110 : Hid (∀ W, Calls Tryz.prog 28 #[.int .u8 (x : Int), .int .u8 110] W fun e w' => e = .returned (.string (nm32 x 110)) ∧ Below W.heap.size W w') := Lib.hid (fun W => name32_any x 110 hx (by decide) W)
  have H115 : Hid (∀ W, Calls Tryz.prog 28 #[.int .u8 (x : Int), .int .u8 115] W fun e w' => e = .returned (.string (nm32 x 115)) ∧ Below W.heap.size W w') := Lib.hid (fun W => name32_any x 115 hx (by decide) W)
  have H99 : Hid (∀ W, Calls Tryz.prog 28 #[.int .u8 (x : Int), .int .u8 99] W fun e w' => e = .returned (.string (nm32 x 99)) ∧ Below W.heap.size W w') := Lib.hid (fun W => name32_any x 99 hx (by decide) W)
  have H105 : Hid (∀ W, Calls Tryz.prog 28 #[.int .u8 (x : Int), .int .u8 105] W fun e w' => e = .returned (.string (nm32 x 105)) ∧ Below W.heap.size W w') := Lib.hid (fun W => name32_any x 105 hx (by decide) W)
  have H116 : Hid (∀ W, Calls Tryz.prog 28 #[.int .u8 (x : Int), .int .u8 116] W fun e w' => e = .returned (.string (nm32 x 116)) ∧ Below W.heap.size W w') := Lib.hid (fun W => name32_any x 116 hx (by decide) W)
  obtain ⟨A, hA⟩ := ex_eq (nm32 x 110)
  obtain ⟨B, hB⟩ := ex_eq (nm32 x 115)
  obtain ⟨C, hC⟩ := ex_eq (nm32 x 99)
  obtain ⟨D, hD⟩ := ex_eq (nm32 x 105)
  obtain ⟨E, hE⟩ := ex_eq (nm32 x 116)
  have HK : Hid ((keys32 x).row = #[.string A, .string B, .string C, .string D, .string E]) := Lib.hid (by rw [← hA, ← hB, ← hC, ← hD, ← hE]; rfl)
  rw [hA] at H110
  rw [hB] at H115
  rw [hC] at H99
  rw [hD] at H105
  rw [hE] at H116
  rw [HK.out]
  clear hA hB hC hD hE hx
  go_enter Tryz.func9, Tryz.ntmps9
  go_upto_region 1 with fail
  refine wp_over (fun V => Hid (V.heap[w.heap.size]? = some (.cells #[.string ByteArray.empty, .string ByteArray.empty, .string ByteArray.empty, .string ByteArray.empty, .string ByteArray.empty] 38 (0, 0))) ∧ Hid (Below w.heap.size w V)) ⟨Lib.hid (heap_alloc_new _ _), Lib.hid ((Below.refl _ _).alloc (Nat.le_refl _) _)⟩ ?_
  rintro W ⟨HR, HB⟩
  obtain ⟨N, hN⟩ := ex_eq w.heap.size
  rw [hN] at HR ⊢
  have HN := Lib.hid hN
  have HNW : Hid (N < W.heap.size) := Lib.hid (Array.getElem?_eq_some_iff.1 HR.out).1
  clear hN
  go_wp2_with (first
    | (go_at_call 28; (with_reducible refine (H110.out _).mono ?_); rintro e W1 ⟨rfl, hb⟩; have H1 := Lib.hid hb; clear hb)
    | (go_at_call 28; (with_reducible refine (H115.out _).mono ?_); rintro e W2 ⟨rfl, hb⟩; have H2 := Lib.hid hb; clear hb)
    | (go_at_call 28; (with_reducible refine (H99.out _).mono ?_); rintro e W3 ⟨rfl, hb⟩; have H3 := Lib.hid hb; clear hb)
    | (go_at_call 28; (with_reducible refine (H105.out _).mono ?_); rintro e W4 ⟨rfl, hb⟩; have H4 := Lib.hid hb; clear hb)
    | (go_at_call 28
       (with_reducible refine (H116.out _).mono ?_)
       rintro e W5 ⟨rfl, hb⟩
       have h1 := H1.out.size
       have h2 := H2.out.size
       have h3 := H3.out.size
       have h4 := H4.out.size
       have HBW : Hid (Below W.heap.size W W5) := Lib.hid ((((H1.out.trans (H2.out.mono h1)).trans (H3.out.mono (by omega))).trans (H4.out.mono (by omega))).trans (hb.mono (by omega)))
       have HR5 := Lib.hid ((HBW.out.block N HNW.out).trans HR.out)
       obtain ⟨z0, z1, z2, z3, z4⟩ := row5 HR5.out
       have zf : ∀ i, W5.frozen? ⟨N, i, none⟩ = false := fun i => frozen_of_row _ _ _ _ _ HR5.out
       clear hb h1 h2 h3 h4))
  refine bodyPost_ret (results_cell_row (p := 2) rfl _ _ N 38 #[.string A, .string B, .string C, .string D, .string E] (0, 0) _ (by rfl) (putL_full (cur := [.string ByteArray.empty, .string ByteArray.empty, .string ByteArray.empty, .string ByteArray.empty, .string ByteArray.empty]) (vs := [.string A, .string B, .string C, .string D, .string E]) HR5.out rfl) Tryz.underlying38 rfl (by kernel_rfl)) rfl ⟨rfl, ?_⟩
  exact putL_below (by have := HN.out; omega) [.string A, .string B, .string C, .string D, .string E] 0 _ (HB.out.trans (HBW.out.mono HB.out.size))
def fewE (xs : List FV) : Bool := decide (∀ x ∈ xs, x.e.data.length ≤ 60) && decide (xs.length ≤ 8)
set_option maxRecDepth 100000 in
set_option maxHeartbeats 2000000 in
theorem fewEntries_any (a : Option Addr) (n cap : Nat) (xs : List FV) (hn : xs.length = n) (hm : n ≤ 4000000) (w : World) (hX : FEsAt w a xs) : Calls Tryz.prog 6 #[.slice a n cap] w fun e w' => e = .returned (.bool (fewE xs)) ∧ w' = w := by
  have HN := Lib.hid hn
  have HX := Lib.hid hX
  clear hn hX
  go_enter Tryz.func6, Tryz.ntmps6
  go_upto_region 2 with fail
  go_loop [3] (fun z => ∃ k : Nat, k ≤ n ∧ z = .int .i64 (k : Int) ∧ Hid (∀ x ∈ xs.take k, x.e.data.length ≤ 60)) (fun z => n - (intOf z).toNat)
  case atStart => exact ⟨0, Nat.zero_le _, rfl, Lib.hid (by simp)⟩
  case round =>
    obtain ⟨k, hk, rfl, HA⟩ := hrel
    by_cases hlt : k < n
    rotate_left
    · have HF : Hid (fewE xs = decide ((n : Int) ≤ 8)) := Lib.hid (by
        unfold fewE
        have h1 := HA.out
        rw [List.take_of_length_le (by have := HN.out; omega)] at h1
        rw [decide_eq_true h1, HN.out, Bool.true_and]
        exact decide_eq_decide.2 (by omega))
      go_wp2
      go_ret
      exact ⟨by rw [HF.out]; rfl, rfl⟩
    have hkx : k < xs.length := by rw [HN.out]; exact hlt
    obtain ⟨b, o, hia, s0, s1, s2, s3, s4, s5⟩ := HX.out.six k hkx
    have hsz : xs[k].e.data.length ≤ 4000000 := (HX.out.2 _ (List.getElem_mem hkx)).sd
    obtain ⟨x, hx⟩ : ∃ x, xs[k] = x := ⟨_, rfl⟩
    have HXM : Hid (x ∈ xs) := Lib.hid (by rw [← hx]; exact List.getElem_mem hkx)
    have HTK : Hid (xs.take (k + 1) = xs.take k ++ [x]) := Lib.hid (by rw [List.take_succ_eq_append_getElem hkx, hx])
    rw [hx] at s4 hsz
    obtain ⟨l, hl⟩ := ex_eq x.e.data.length
    rw [hl] at s4
    have HL := Lib.hid hl
    subst hia
    clear hx hl s0 s1 s2 s3 s5 hkx hsz
    by_cases h60 : l ≤ 60
    · have h6 : ¬ (60 : Int) < (l : Int) := by omega
      go_wp2
      go_round
      case rel =>
        refine ⟨k + 1, by omega, by go_num, Lib.hid ?_⟩
        rw [HTK.out]
        intro y hy
        rcases List.mem_append.1 hy with h | h
        · exact HA.out y h
        · rw [List.mem_singleton.1 h, HL.out]; exact h60
      case measure => simp [intOf]; omega
    · have h6 : (60 : Int) < (l : Int) := by omega
      have HF : Hid (fewE xs = false) := Lib.hid (by
        unfold fewE
        rw [decide_eq_false (fun h => h60 (by rw [← HL.out]; exact h x HXM.out)), Bool.false_and])
      go_wp2
      go_ret
      exact ⟨by rw [HF.out]; rfl, rfl⟩
end Go.Proofs.YtmcbnhkcjhlbaaaGreatDoor.Tp
end
section
namespace Go.Proofs.YtmcbnhkcjhlbaaaGreatDoor.Tp
open Go.RowKit
open Kit (Chg)
open Go.Proofs.YtmcbnhkcjhlbaaaGreatDoor.One

theorem joinV {P : Program} {id : Nat} {ops : Array Oper} {Q : Exit → Act → World → Prop} {a : Act} {w : World} (act : Nat → Value → Act) (F : Nat → Value → World → Prop)
    (main : (∀ A v V, F A v V → Q .normal (act A v) V) → (Code.region id ops true).wp P Q a w)
    (rest : ∀ A v V, F A v V → Q .normal (act A v) V) : (Code.region id ops true).wp P Q a w := main rest
def rootR (K : KV) (c : Ck.Chk.Cut) (es : List FE) : RefP := refOf K (nodeF K c es (es.length + 1) [])
set_option maxRecDepth 100000 in
set_option maxHeartbeats 4000000 in
theorem buildRoot_any (x : Nat) (hx : x < 256) (a : Option Addr) (n cap : Nat) (xs : List FV) (hn : xs.length = n) (hcap : n ≤ cap) (w : World) (hX : FEsAt w a xs) (hE : SmallT (xs.map FV.e)) (hT : Top w) : Calls Tryz.prog 18 #[.agg (keys32 x).row, .slice a n cap] w fun e w' => e = .returned (.tuple #[.agg (rootR (keys32 x) (cut22 0) (xs.map FV.e)).row, .bool true]) ∧ Below w.heap.size w w' := by
  have H11 : Hid (∀ W, Calls Tryz.prog 11 #[.int .u64 0] W fun e w' => e = .returned (.agg #[.int .i64 2, .int .i64 9, .int .i64 2, .int .i64 2, .int .u64 0]) ∧ Below W.heap.size W w') := Lib.hid (fun W => cuttingOf_any 0 W)
  have HBU0 : Hid (∀ V, Below w.heap.size w V → Calls Tryz.prog 12 #[.agg (keys32 x).row, .agg #[.int .i64 2, .int .i64 9, .int .i64 2, .int .i64 2, .int .u64 0], .slice a n cap, .map none] V fun e w' => ∃ (v : Value) (bl : List BV) (B : Nat), e = .returned (.tuple #[.agg (rootR (keys32 x) (cut22 0) (xs.map FV.e)).row, v, .int .i64 0]) ∧ Below V.heap.size V w') := Lib.hid (fun V h => (build_any (keys32 x) (keys32_ok x hx) (cut22 0) (cut22_ok 0) a n cap xs hn hcap V (hX.later h) hE (hT.later h)).mono (fun e w' hP => by
    obtain ⟨v, bl, B, h1, _, _, _, h5⟩ := hP
    exact ⟨v, bl, B, h1, h5⟩))
  obtain ⟨K, hK⟩ := ex_eq (keys32 x)
  rw [hK] at HBU0 ⊢
  clear hK
  obtain ⟨kn, ks, kc, ki, kt⟩ := K
  unfold KV.row at HBU0 ⊢
  dsimp only at HBU0 ⊢
  obtain ⟨r, hr⟩ := ex_eq (rootR ⟨kn, ks, kc, ki, kt⟩ (cut22 0) (xs.map FV.e))
  rw [hr] at HBU0 ⊢
  clear hr
  obtain ⟨rn, rs⟩ := r
  unfold RefP.row at HBU0 ⊢
  dsimp only at HBU0 ⊢
  have HBU := HBU0
  clear HBU0 hn hX hE hT hx
  go_enter Tryz.func18, Tryz.ntmps18
  go_upto_region 1 with fail
  refine wp_over (fun V => Hid (V.heap[w.heap.size]? = some (.cells #[.string kn, .string ks, .string kc, .string ki, .string kt] 38 (0, 0))) ∧ Hid (V.heap[w.heap.size + 1]? = some (.cells (RefP.row refZ) 45 (0, 0))) ∧ Hid (Below w.heap.size w V) ∧ Hid (V.heap.size = w.heap.size + 2)) ⟨Lib.hid two_rows1, Lib.hid two_rows2, Lib.hid two_below, Lib.hid two_size⟩ ?_
  rintro W ⟨HKR, HRZ, HWB, HWS⟩
  obtain ⟨b0, hb0⟩ := ex_eq w.heap.size
  rw [hb0] at HKR HRZ HWS ⊢
  have HB0 := Lib.hid hb0
  clear hb0
  have HWW : Hid (∀ V, Below (b0 + 2) W V → Below w.heap.size w V) := Lib.hid (fun V h => HWB.out.trans (h.mono (by have := HB0.out; omega)))
  have HS5 : Hid (∀ X, Below (b0 + 2) W X → X.cell? ⟨b0, 0, none⟩ = some (.string kn) ∧ X.cell? ⟨b0, 1, none⟩ = some (.string ks) ∧ X.cell? ⟨b0, 2, none⟩ = some (.string kc) ∧ X.cell? ⟨b0, 3, none⟩ = some (.string ki) ∧ X.cell? ⟨b0, 4, none⟩ = some (.string kt)) := Lib.hid (fun X h => row5 ((h.block b0 (by omega)).trans HKR.out))
  have HDR : Hid (Below (b0 + 2) W W.drew) := Lib.hid (Below.refl _ _).drew
  apply joinV (F := (fun A v X => Hid (X.heap[A]? = some (.cells (RefP.row (⟨rn, rs⟩ : RefP)) 45 (0, 0))) ∧ Hid (Below (b0 + 2) W X) ∧ Hid (b0 + 2 ≤ A)))
  case main =>
    intro HJ
    refine Kit.wp_region_tplan (fun V => V.cell? ⟨b0, 0, none⟩ = some (.string kn) ∧ V.cell? ⟨b0, 1, none⟩ = some (.string ks) ∧ V.cell? ⟨b0, 2, none⟩ = some (.string kc) ∧ V.cell? ⟨b0, 3, none⟩ = some (.string ki) ∧ V.cell? ⟨b0, 4, none⟩ = some (.string kt)) (.heads [0, 2] (.op2 1 (.op2 3 (.head 4 (.head 5 (.head 6 (.head 7 (.op1 8 (.op1 9 (.head 10 (.head 11 .done)))))))) 8 (.op1 3 (.head 4 (.head 5 (.head 6 (.head 7 (.op1 9 (.head 10 (.head 11 .done))))))))) 8 (.op1 1 (.op1 3 (.head 4 (.head 5 (.head 6 (.head 7 (.op1 9 (.head 10 (.head 11 .done))))))))))) (by kernel_rfl) (by kernel_rfl) (by kernel_rfl) (by kernel_rfl) (HS5.out _ HDR.out) ?_
    iterate 2 (refine Kit.tplan_head (by rfl) (by first | exact .inr ⟨by rfl, rfl⟩ | exact .inl ⟨by rfl, fun w' hS => by (dsimp only at hS); go_simp; (try with_reducible rfl)⟩) ?_; (try simp only [Act.put, List.setIfInBounds_toArray, List.set_cons_zero, List.set_cons_succ]))
    obtain ⟨VD, hVD⟩ := ex_eq W.drew
    rw [hVD] at HDR ⊢
    clear hVD
    refine Kit.tplan_op2 ?_ ?_
    rotate_left
    focus (
      refine Kit.tplan_op1 (by rfl) (by rfl) fun K' hK' => ?_
      go_simp
      have HAG : Hid ((VD.alloc (.cells #[.string ⟨#[]⟩, .int .i64 0, .int .i64 0] 45)).heap[VD.heap.size]? = some (.cells #[.string ⟨#[]⟩, .int .i64 0, .int .i64 0] 45 (0, 0))) := Lib.hid (heap_alloc_new _ _)
      have HVA : Hid (Below (b0 + 2) W (VD.alloc (.cells #[.string ⟨#[]⟩, .int .i64 0, .int .i64 0] 45))) := Lib.hid (HDR.out.alloc (by have := HDR.out.size; have := HWS.out; omega) _)
      have HA2 : Hid (b0 + 2 ≤ VD.heap.size) := Lib.hid (by have := HDR.out.size; have := HWS.out; omega)
      obtain ⟨VA, hVO⟩ := ex_eq (VD.alloc (.cells #[.string ⟨#[]⟩, .int .i64 0, .int .i64 0] 45))
      rw [hVO] at HAG HVA ⊢
      clear hVO
      obtain ⟨A, hA⟩ := ex_eq VD.heap.size
      rw [hA] at HAG HA2 ⊢
      clear hA
      have HAS := Lib.hid (Array.getElem?_eq_some_iff.1 HAG.out).1
      refine hK' _ _ (HS5.out _ HVA.out) ?_
      clear hK' K'
      refine Kit.tplan_op1 (by rfl) (by rfl) fun K' hK' => ?_
      go_simp
      go_at_call 11
      refine (H11.out VA).mono ?_
      rintro e VC ⟨rfl, hb⟩
      have HVC : Hid (Below (b0 + 2) W VC) := Lib.hid (HVA.out.trans (hb.mono (by have := HVA.out.size; have := HWS.out; omega)))
      replace HAG := Lib.hid ((hb.block A HAS.out).trans HAG.out)
      have HAS := Lib.hid (Array.getElem?_eq_some_iff.1 HAG.out).1
      clear hb
      refine hK' _ _ (HS5.out _ HVC.out) ?_
      clear hK' K'
      refine Kit.tplan_op1 (by rfl) (by rfl) fun K' hK' => ?_
      go_simp
      go_at_call 12
      refine (HBU.out VC (HWW.out _ HVC.out)).mono ?_
      rintro e VB ⟨bv, bl, B, rfl, hb⟩
      have HVB : Hid (Below (b0 + 2) W VB) := Lib.hid (HVC.out.trans (hb.mono (by have := HVC.out.size; have := HWS.out; omega)))
      replace HAG := Lib.hid ((hb.block A HAS.out).trans HAG.out)
      have HAS := Lib.hid (Array.getElem?_eq_some_iff.1 HAG.out).1
      clear hb
      refine hK' _ _ (HS5.out _ HVB.out) ?_
      clear hK' K'
      iterate 4 (refine Kit.tplan_head (by rfl) (by first | exact .inr ⟨by rfl, rfl⟩ | exact .inl ⟨by rfl, fun w' hS => by (dsimp only at hS); go_simp; (try with_reducible rfl)⟩) ?_; (try simp only [Act.put, List.setIfInBounds_toArray, List.set_cons_zero, List.set_cons_succ]))
      obtain ⟨z0, z1, z2⟩ := row3R (r := (⟨⟨#[]⟩, 0⟩ : RefP)) HAG.out
      dsimp only at z0 z1 z2
      have zf : ∀ i, VB.frozen? ⟨A, i, none⟩ = false := fun i => frozen_of_row _ _ _ _ _ HAG.out
      refine Kit.tplan_op1 (by rfl) (by rfl) fun K' hK' => ?_
      go_simp
      have HPB : Hid (Below (b0 + 2) W (putL A 0 [.string rn, .int .i64 0, .int .i64 (rs : Int)] VB)) := Lib.hid (putL_below HA2.out [.string rn, .int .i64 0, .int .i64 (rs : Int)] 0 _ HVB.out)
      refine hK' _ _ (HS5.out _ HPB.out) ?_
      clear hK' K' z0 z1 z2 zf
      iterate 2 (refine Kit.tplan_head (by rfl) (by first | exact .inr ⟨by rfl, rfl⟩ | exact .inl ⟨by rfl, fun w' hS => by (dsimp only at hS); go_simp; (try with_reducible rfl)⟩) ?_; (try simp only [Act.put, List.setIfInBounds_toArray, List.set_cons_zero, List.set_cons_succ]))
      refine Kit.tplan_done ?_
      (try simp only [Act.put, List.setIfInBounds_toArray, List.set_cons_zero, List.set_cons_succ])
      exact HJ A bv (putL A 0 [.string rn, .int .i64 0, .int .i64 (rs : Int)] VB) ⟨Lib.hid (putL_full (cur := [.string ⟨#[]⟩, .int .i64 0, .int .i64 0]) (vs := [.string rn, .int .i64 0, .int .i64 (rs : Int)]) HAG.out rfl), HPB, HA2⟩)
    refine Kit.tplan_op1 (by rfl) (by rfl) fun K' hK' => ?_
    go_simp
    go_at_call 11
    refine (H11.out VD).mono ?_
    rintro e VC ⟨rfl, hb⟩
    have HVC : Hid (Below (b0 + 2) W VC) := Lib.hid (HDR.out.trans (hb.mono (by have := HDR.out.size; have := HWS.out; omega)))
    clear hb
    refine hK' _ _ (HS5.out _ HVC.out) ?_
    clear hK' K'
    refine Kit.tplan_op2 ?_ ?_
    rotate_left
    focus (
      refine Kit.tplan_op1 (by rfl) (by rfl) fun K' hK' => ?_
      go_simp
      have HAG : Hid ((VC.alloc (.cells #[.string ⟨#[]⟩, .int .i64 0, .int .i64 0] 45)).heap[VC.heap.size]? = some (.cells #[.string ⟨#[]⟩, .int .i64 0, .int .i64 0] 45 (0, 0))) := Lib.hid (heap_alloc_new _ _)
      have HVA : Hid (Below (b0 + 2) W (VC.alloc (.cells #[.string ⟨#[]⟩, .int .i64 0, .int .i64 0] 45))) := Lib.hid (HVC.out.alloc (by have := HVC.out.size; have := HWS.out; omega) _)
      have HA2 : Hid (b0 + 2 ≤ VC.heap.size) := Lib.hid (by have := HVC.out.size; have := HWS.out; omega)
      obtain ⟨VA, hVO⟩ := ex_eq (VC.alloc (.cells #[.string ⟨#[]⟩, .int .i64 0, .int .i64 0] 45))
      rw [hVO] at HAG HVA ⊢
      clear hVO
      obtain ⟨A, hA⟩ := ex_eq VC.heap.size
      rw [hA] at HAG HA2 ⊢
      clear hA
      have HAS := Lib.hid (Array.getElem?_eq_some_iff.1 HAG.out).1
      refine hK' _ _ (HS5.out _ HVA.out) ?_
      clear hK' K'
      refine Kit.tplan_op1 (by rfl) (by rfl) fun K' hK' => ?_
      go_simp
      go_at_call 12
      refine (HBU.out VA (HWW.out _ HVA.out)).mono ?_
      rintro e VB ⟨bv, bl, B, rfl, hb⟩
      have HVB : Hid (Below (b0 + 2) W VB) := Lib.hid (HVA.out.trans (hb.mono (by have := HVA.out.size; have := HWS.out; omega)))
      replace HAG := Lib.hid ((hb.block A HAS.out).trans HAG.out)
      have HAS := Lib.hid (Array.getElem?_eq_some_iff.1 HAG.out).1
      clear hb
      refine hK' _ _ (HS5.out _ HVB.out) ?_
      clear hK' K'
      iterate 4 (refine Kit.tplan_head (by rfl) (by first | exact .inr ⟨by rfl, rfl⟩ | exact .inl ⟨by rfl, fun w' hS => by (dsimp only at hS); go_simp; (try with_reducible rfl)⟩) ?_; (try simp only [Act.put, List.setIfInBounds_toArray, List.set_cons_zero, List.set_cons_succ]))
      obtain ⟨z0, z1, z2⟩ := row3R (r := (⟨⟨#[]⟩, 0⟩ : RefP)) HAG.out
      dsimp only at z0 z1 z2
      have zf : ∀ i, VB.frozen? ⟨A, i, none⟩ = false := fun i => frozen_of_row _ _ _ _ _ HAG.out
      refine Kit.tplan_op1 (by rfl) (by rfl) fun K' hK' => ?_
      go_simp
      have HPB : Hid (Below (b0 + 2) W (putL A 0 [.string rn, .int .i64 0, .int .i64 (rs : Int)] VB)) := Lib.hid (putL_below HA2.out [.string rn, .int .i64 0, .int .i64 (rs : Int)] 0 _ HVB.out)
      refine hK' _ _ (HS5.out _ HPB.out) ?_
      clear hK' K' z0 z1 z2 zf
      iterate 2 (refine Kit.tplan_head (by rfl) (by first | exact .inr ⟨by rfl, rfl⟩ | exact .inl ⟨by rfl, fun w' hS => by (dsimp only at hS); go_simp; (try with_reducible rfl)⟩) ?_; (try simp only [Act.put, List.setIfInBounds_toArray, List.set_cons_zero, List.set_cons_succ]))
      refine Kit.tplan_done ?_
      (try simp only [Act.put, List.setIfInBounds_toArray, List.set_cons_zero, List.set_cons_succ])
      exact HJ A bv (putL A 0 [.string rn, .int .i64 0, .int .i64 (rs : Int)] VB) ⟨Lib.hid (putL_full (cur := [.string ⟨#[]⟩, .int .i64 0, .int .i64 0]) (vs := [.string rn, .int .i64 0, .int .i64 (rs : Int)]) HAG.out rfl), HPB, HA2⟩)
    refine Kit.tplan_op1 (by rfl) (by rfl) fun K' hK' => ?_
    go_simp
    go_at_call 12
    refine (HBU.out VC (HWW.out _ HVC.out)).mono ?_
    rintro e VB ⟨bv, bl, B, rfl, hb⟩
    have HVB : Hid (Below (b0 + 2) W VB) := Lib.hid (HVC.out.trans (hb.mono (by have := HVC.out.size; have := HWS.out; omega)))
    clear hb
    refine hK' _ _ (HS5.out _ HVB.out) ?_
    clear hK' K'
    iterate 4 (refine Kit.tplan_head (by rfl) (by first | exact .inr ⟨by rfl, rfl⟩ | exact .inl ⟨by rfl, fun w' hS => by (dsimp only at hS); go_simp; (try with_reducible rfl)⟩) ?_; (try simp only [Act.put, List.setIfInBounds_toArray, List.set_cons_zero, List.set_cons_succ]))
    refine Kit.tplan_op1 (by rfl) (by rfl) fun K' hK' => ?_
    go_simp
    have HAG : Hid ((VB.alloc (.cells #[.string ⟨#[]⟩, .int .i64 0, .int .i64 0] 45)).heap[VB.heap.size]? = some (.cells #[.string ⟨#[]⟩, .int .i64 0, .int .i64 0] 45 (0, 0))) := Lib.hid (heap_alloc_new _ _)
    have HVA : Hid (Below (b0 + 2) W (VB.alloc (.cells #[.string ⟨#[]⟩, .int .i64 0, .int .i64 0] 45))) := Lib.hid (HVB.out.alloc (by have := HVB.out.size; have := HWS.out; omega) _)
    have HA2 : Hid (b0 + 2 ≤ VB.heap.size) := Lib.hid (by have := HVB.out.size; have := HWS.out; omega)
    obtain ⟨VA, hVO⟩ := ex_eq (VB.alloc (.cells #[.string ⟨#[]⟩, .int .i64 0, .int .i64 0] 45))
    rw [hVO] at HAG HVA ⊢
    clear hVO
    obtain ⟨A, hA⟩ := ex_eq VB.heap.size
    rw [hA] at HAG HA2 ⊢
    clear hA
    have HAS := Lib.hid (Array.getElem?_eq_some_iff.1 HAG.out).1
    refine hK' _ _ (HS5.out _ HVA.out) ?_
    clear hK' K'
    obtain ⟨z0, z1, z2⟩ := row3R (r := (⟨⟨#[]⟩, 0⟩ : RefP)) HAG.out
    dsimp only at z0 z1 z2
    have zf : ∀ i, VA.frozen? ⟨A, i, none⟩ = false := fun i => frozen_of_row _ _ _ _ _ HAG.out
    refine Kit.tplan_op1 (by rfl) (by rfl) fun K' hK' => ?_
    go_simp
    have HPB : Hid (Below (b0 + 2) W (putL A 0 [.string rn, .int .i64 0, .int .i64 (rs : Int)] VA)) := Lib.hid (putL_below HA2.out [.string rn, .int .i64 0, .int .i64 (rs : Int)] 0 _ HVA.out)
    refine hK' _ _ (HS5.out _ HPB.out) ?_
    clear hK' K' z0 z1 z2 zf
    iterate 2 (refine Kit.tplan_head (by rfl) (by first | exact .inr ⟨by rfl, rfl⟩ | exact .inl ⟨by rfl, fun w' hS => by (dsimp only at hS); go_simp; (try with_reducible rfl)⟩) ?_; (try simp only [Act.put, List.setIfInBounds_toArray, List.set_cons_zero, List.set_cons_succ]))
    refine Kit.tplan_done ?_
    (try simp only [Act.put, List.setIfInBounds_toArray, List.set_cons_zero, List.set_cons_succ])
    exact HJ A bv (putL A 0 [.string rn, .int .i64 0, .int .i64 (rs : Int)] VA) ⟨Lib.hid (putL_full (cur := [.string ⟨#[]⟩, .int .i64 0, .int .i64 0]) (vs := [.string rn, .int .i64 0, .int .i64 (rs : Int)]) HAG.out rfl), HPB, HA2⟩
  case rest =>
    rintro A v X ⟨HAR, HXB, HA2⟩
    obtain ⟨r0, r1, r2⟩ := row3R HAR.out
    dsimp only at r0 r1 r2
    have HRR := Lib.hid ((HXB.out.block (b0 + 1) (by omega)).trans HRZ.out)
    obtain ⟨z0, z1, z2⟩ := row3R HRR.out
    dsimp only [refZ] at z0 z1 z2
    have zf : ∀ i, X.frozen? ⟨b0 + 1, i, none⟩ = false := fun i => frozen_of_row _ _ _ _ _ HRR.out
    go_wp2_with fail
    refine bodyPost_ret (results_cell_row_tmp (p := 4) (u := 5) rfl _ _ (b0 + 1) 45 #[.string rn, .int .i64 0, .int .i64 (rs : Int)] (0, 0) _ (by rfl) (putL_full (cur := [.string refZ.name, .int .i64 0, .int .i64 (refZ.size : Int)]) (vs := [.string rn, .int .i64 0, .int .i64 (rs : Int)]) HRR.out rfl) Tryz.underlying45 rfl (by kernel_rfl)) rfl ⟨rfl, ?_⟩
    exact putL_below (by have := HB0.out; omega) [.string rn, .int .i64 0, .int .i64 (rs : Int)] 0 _ (HWW.out _ HXB.out)
end Go.Proofs.YtmcbnhkcjhlbaaaGreatDoor.Tp
end
section
namespace Go.Proofs.YtmcbnhkcjhlbaaaGreatDoor.Tp
open Go.RowKit
open Kit (Chg)
open Go.Proofs.YtmcbnhkcjhlbaaaGreatDoor.One

theorem DiffOf.nil_len {bs : List FE} {L : List CV} (h : DiffOf [] bs L) (hb : (bs.map FE.p).Nodup) : L.length = bs.length := by
  have hk : ∀ c ∈ L, c.kind = 3 := fun c hc => by
    rcases (h.good c hc).k with k | k | k | k
    · have h1 : c.p ∈ L.filterMap takeOf := List.mem_filterMap.2 ⟨c, hc, by unfold takeOf; rw [if_pos k]⟩
      obtain ⟨e, he, _⟩ := (h.tmem c.p).1 h1
      simp at he
    · obtain ⟨o, ho, _⟩ := h.src c hc k
      simp at ho
    · exact k
    · have h1 := (h.mod c hc k).2
      rw [keptB_iff] at h1
      obtain ⟨o, ho, _⟩ := h1
      simp at ho
  have hm : L.filterMap putOf = L.map CV.p := by
    have : ∀ (M : List CV), (∀ c ∈ M, c.kind = 3) → M.filterMap putOf = M.map CV.p := by
      intro M
      induction M with
      | nil => intro _; rfl
      | cons c M ih =>
        intro hM
        have h1 : putOf c = some c.p := by unfold putOf; rw [if_pos (.inr (hM c (by simp)))]
        rw [List.filterMap_cons, h1, List.map_cons, ih (fun x hx => hM x (List.mem_cons_of_mem _ hx))]
    exact this L hk
  have hp : (L.map CV.p).Perm (bs.map FE.p) := by
    refine (List.perm_ext_iff_of_nodup (by rw [← hm]; exact h.pnd) hb).2 (fun p => ⟨fun hp => ?_, fun hp => ?_⟩)
    · obtain ⟨c, hc, rfl⟩ := List.mem_map.1 hp
      have h1 := hk c hc
      rw [good_p (h.good c hc) (by omega)]
      exact List.mem_map_of_mem (h.anew c hc (.inr h1)).1
    · obtain ⟨e, he, rfl⟩ := List.mem_map.1 hp
      rw [← hm]
      refine h.pall e he ?_
      rw [keptB_false]
      simp
  have := hp.length_eq
  rw [List.length_map, List.length_map] at this
  exact this
def awE1 : FE := ⟨⟨#[100]⟩, 2, 0, 0, [], ⟨#[]⟩⟩
def awE2 : FE := ⟨⟨#[100, 47, 102]⟩, 1, 0, 0, [120], ⟨#[]⟩⟩
theorem comp_one (c : UInt8) (h1 : c ≠ 46) (h2 : 32 ≤ c.toNat) (h3 : Lib.validD [c] = true) : CompP [c] := ⟨by simp, by simp [h1], by simp, by simp, by intro x hx; rw [List.mem_singleton.1 hx]; exact h2, h3⟩
theorem awTree : SmallT [awE1, awE2] := by
  have c1 : cutS [100] = [[100]] := rfl
  have c2 : cutS [100, 47, 102] = [[100], [102]] := rfl
  have v1 : VP awE1.path.data.toList := ⟨by show (cutS [100]).length ≤ 16; rw [c1]; decide, by show ([100] : Bs).length ≤ 512; decide, fun p hp => by
    have hp : p ∈ cutS [100] := hp
    rw [c1] at hp
    rw [List.mem_singleton.1 hp]
    exact comp_one 100 (by decide) (by decide) (by kernel_rfl)⟩
  have v2 : VP awE2.path.data.toList := ⟨by show (cutS [100, 47, 102]).length ≤ 16; rw [c2]; decide, by show ([100, 47, 102] : Bs).length ≤ 512; decide, fun p hp => by
    have hp : p ∈ cutS [100, 47, 102] := hp
    rw [c2] at hp
    rcases List.mem_cons.1 hp with e | e
    · rw [e]; exact comp_one 100 (by decide) (by decide) (by kernel_rfl)
    · rw [List.mem_singleton.1 e]; exact comp_one 102 (by decide) (by decide) (by kernel_rfl)⟩
  have o1 : awE1.ok := ⟨v1, by decide, by decide, by decide, (fun h => absurd h (by decide)), fun _ => ⟨rfl, rfl⟩, (fun h => absurd h (by decide)), .inr (.inl rfl)⟩
  have o2 : awE2.ok := ⟨v2, by decide, by decide, by decide, fun _ => ⟨by decide, rfl⟩, (fun h => absurd h (by decide)), (fun h => absurd h (by decide)), .inl rfl⟩
  refine ⟨⟨by decide, ?_, ?_, ?_⟩, by decide, ?_, ?_⟩
  · intro e he
    rcases List.mem_cons.1 he with h | h
    · rw [h]; exact o1
    · rw [List.mem_singleton.1 h]; exact o2
  · rw [List.pairwise_cons]
    refine ⟨fun b hb => ?_, by simp⟩
    rw [List.mem_singleton.1 hb]
    show cmpP [100] [100, 47, 102] < 0
    decide
  · intro i hi hp
    have hi : i < 2 := hi
    match i, hi with
    | 0, _ => exact absurd rfl hp
    | 1, _ => exact ⟨0, Nat.zero_lt_one, rfl, rfl⟩
  · intro e he
    rcases List.mem_cons.1 he with h | h
    · rw [h]; decide
    · rw [List.mem_singleton.1 h]; decide
  · intro e he
    rcases List.mem_cons.1 he with h | h
    · rw [h]; decide
    · rw [List.mem_singleton.1 h]; decide
theorem one_chunk (c : Ck.Chk.Cut) (x : Nat) : Ck.Chk.chunks c [x] = [[x]] := by
  have h1 := chunks_flat c [x]
  have h2 := chunks_few c [x]
  match h : Ck.Chk.chunks c [x] with
  | [] => rw [h] at h1; simp at h1
  | [y] =>
    rw [h] at h1
    have : y = [x] := by simpa using h1
    rw [this]
  | _ :: _ :: _ => rw [h] at h2; simp at h2
theorem aw_scan (c : Ck.Chk.Cut) : newS [] (scanC c (fun _ _ => false) [awE1, awE2]) = [[120]] := by
  have h1 : scanC c (fun _ _ => false) [awE1, awE2] = [[120]] := by
    show scaC c _ awE1 ++ (scaC c _ awE2 ++ []) = _
    have h2 : scaC c (fun _ _ => false) awE1 = [] := rfl
    have h3 : scaC c (fun _ _ => false) awE2 = Ck.Chk.chunks c [120] := rfl
    rw [h2, h3, one_chunk]
    rfl
  rw [h1]
  rfl
def awX1 : FV := ⟨awE1, none, 0⟩
theorem aw_rows {w : World} {N M : Nat} (h : w.heap[N]? = some (.cells #[.string ⟨#[100]⟩, .int .i64 2, .int .i64 0, .int .i64 0, .slice none 0 0, .string ⟨#[]⟩, .string ⟨#[100, 47, 102]⟩, .int .i64 1, .int .i64 0, .int .i64 0, .slice (some ⟨M, 0, none⟩) 1 1, .string ⟨#[]⟩] 54 (0, 0))) (hb : BytesAt w (some ⟨M, 0, none⟩) [120]) : FEsAt w (some ⟨N, 0, none⟩) [awX1, ⟨awE2, some ⟨M, 0, none⟩, 1⟩] := by
  refine ⟨.inr ⟨N, 0, rfl, fun k hk j hj => ?_⟩, fun x hx => ?_⟩
  · rw [cell_of_row _ _ _ _ _ _ h]
    have hk : k < 2 := hk
    match k, hk with
    | 0, _ =>
      match j, hj with
      | 0, _ => rfl
      | 1, _ => rfl
      | 2, _ => rfl
      | 3, _ => rfl
      | 4, _ => rfl
      | 5, _ => rfl
    | 1, _ =>
      match j, hj with
      | 0, _ => rfl
      | 1, _ => rfl
      | 2, _ => rfl
      | 3, _ => rfl
      | 4, _ => rfl
      | 5, _ => rfl
  · rcases List.mem_cons.1 hx with h1 | h1
    · rw [h1]
      exact ⟨fun _ => rfl, Nat.le_refl _, ⟨.inl rfl, by simp [awX1, awE1], by simp [awX1, awE1]⟩, by decide, by decide, by decide⟩
    · rw [List.mem_singleton.1 h1]
      exact ⟨(fun e => by cases e), Nat.le_refl _, hb, by show (3 : Nat) ≤ 4000000; decide, by show (0 : Nat) ≤ 4000000; decide, by show (1 : Nat) ≤ 4000000; decide⟩
theorem aw_second (w : World) (A B : Obj) : ((w.alloc A).alloc B).heap[w.heap.size + 1]? = some B := by
  have h := heap_alloc_new (w.alloc A) B
  rwa [World.size_alloc] at h
set_option maxRecDepth 100000 in
set_option maxHeartbeats 4000000 in
theorem awake12_any (w : World) (hT : Top w) : Calls Tryz.prog 5 #[] w fun e w' => e = .returned (.bool true) ∧ Below w.heap.size w w' := by
  have HT := Lib.hid hT
  have H11 : Hid (∀ W, Calls Tryz.prog 11 #[.int .u64 0] W fun e w' => e = .returned (.agg #[.int .i64 2, .int .i64 9, .int .i64 2, .int .i64 2, .int .u64 0]) ∧ Below W.heap.size W w') := Lib.hid (fun W => cuttingOf_any 0 W)
  have HVC : Hid (∀ V, Calls Tryz.prog 21 #[.agg #[.int .i64 2, .int .i64 9, .int .i64 2, .int .i64 2, .int .u64 0]] V fun e w' => e = .returned (.bool true) ∧ Below V.heap.size V w') := Lib.hid (fun V => by
    have h := Ck.valid_any ((cut22 0).mn : Int) ((cut22 0).mx : Int) ((cut22 0).win : Int) ((cut22 0).bits : Int) (cut22 0).seed V
    rw [Ck.valid_of (cut22_ok 0)] at h
    exact h)
  have kc := fun (w : World) (C : Array Value) (n c : Nat) => Lib.run_convert_bytes_const (P := Tryz.prog) w 52 5 C n c Tryz.underlying52 Tryz.underlying5
  clear hT
  go_enter Tryz.func5, Tryz.ntmps5
  go_upto_region 2 with fail
  clear kc
  refine wp_over (fun V => Hid (BytesAt V (some ⟨w.heap.size, 0, none⟩) [120]) ∧ Hid (V.heap[w.heap.size + 1]? = some (.cells #[.string ⟨#[100]⟩, .int .i64 2, .int .i64 0, .int .i64 0, .slice none 0 0, .string ⟨#[]⟩, .string ⟨#[100, 47, 102]⟩, .int .i64 1, .int .i64 0, .int .i64 0, .slice (some ⟨w.heap.size, 0, none⟩) 1 1, .string ⟨#[]⟩] 54 (0, 0))) ∧ Hid (Below w.heap.size w V)) ⟨Lib.hid ((lit_alloc (bs := [120]) rfl (by decide) (by decide)).later ((Below.refl _ _).alloc (Nat.le_refl _) _)), Lib.hid (aw_second w _ _), Lib.hid (((Below.refl _ _).alloc (Nat.le_refl _) _).alloc (by simp) _)⟩ ?_
  rintro W ⟨HBY, HRW, HWB⟩
  obtain ⟨M, hM⟩ := ex_eq w.heap.size
  obtain ⟨N, hN⟩ := ex_eq (w.heap.size + 1)
  have HX : Hid (FEsAt W (some ⟨N, 0, none⟩) [awX1, ⟨awE2, some ⟨M, 0, none⟩, 1⟩]) := Lib.hid (by rw [← hN, ← hM]; exact aw_rows HRW.out HBY.out)
  (try rw [hN])
  clear HRW HBY hM hN
  have HTW := Lib.hid (HT.out.later HWB.out)
  obtain ⟨xs, hxs⟩ : ∃ xs : List FV, xs = [awX1, ⟨awE2, some ⟨M, 0, none⟩, 1⟩] := ⟨_, rfl⟩
  rw [← hxs] at HX
  have HXM : Hid (xs.map FV.e = [awE1, awE2]) := Lib.hid (by rw [hxs]; rfl)
  have HXL : Hid (xs.length = 2) := Lib.hid (by rw [hxs]; rfl)
  have HSM : Hid (SmallT (xs.map FV.e)) := Lib.hid (by rw [HXM.out]; exact awTree)
  clear hxs
  have HDF := Lib.hid (diff_any none 0 0 [] (some ⟨N, 0, none⟩) 2 2 xs rfl HXL.out (Nat.le_refl _) (Nat.le_refl _) W ⟨.inl rfl, by simp⟩ HX.out OkTree.nil HSM.out.ok HTW.out)
  go_upto_region 3 with (first
    | (go_at_call 15
       (with_reducible refine HDF.out.mono ?_)
       rintro e W1 ⟨v, L, B, rfl, hB, hrow, hl, hd, hb⟩
       have HRW := Lib.hid hrow
       have HLL : Hid (L.length = 2) := Lib.hid (by
         have h1 := DiffOf.nil_len hd (nodup_paths HSM.out.ok.asc)
         rw [h1, List.length_map]
         exact HXL.out)
       have HB1 := Lib.hid hb
       clear hrow hl hd hb hB))
  obtain ⟨da, dcap, hv, hdc, _⟩ := HRW.out.at
  rw [HLL.out] at hv
  subst hv
  have HW1 : Hid (Below w.heap.size w W1) := Lib.hid (HWB.out.trans (HB1.out.mono HWB.out.size))
  have HSCN := Lib.hid (fun V (h : Below W1.heap.size W1 V) => scan_any ⟨#[]⟩ (fun _ _ => false) rules_nil 5 (by decide) (cut22 0) (cut22_ok 0) (some ⟨N, 0, none⟩) 2 2 xs HXL.out (Nat.le_refl _) V ((HX.out.later HB1.out).later h) HSM.out ((HTW.out.later HB1.out).later h))
  have HSC2 : Hid (∀ V, Below W1.heap.size W1 V → Calls Tryz.prog 19 #[.agg #[.int .i64 0, .slice none 0 0], .int .i64 5, .slice (some ⟨N, 0, none⟩) 2 2, .string ⟨#[]⟩, .agg #[.int .i64 2, .int .i64 9, .int .i64 2, .int .i64 2, .int .u64 0]] V (ScanP (cut22 0) (fun _ _ => false) (xs.map FV.e) V)) := Lib.hid HSCN.out
  clear hdc HSCN
  go_upto_region 4 with (first
    | (go_at_call 11
       (with_reducible refine (H11.out _).mono ?_)
       rintro e W2 ⟨rfl, hb⟩
       have HB2 := Lib.hid hb
       clear hb)
    | (go_at_call 19
       (with_reducible refine (HSC2.out _ HB2.out).mono ?_)
       rintro e W3 ⟨at_, fa, fn, fc, ca, cn, cc, na, nc, rd, nl, B3, rfl, hd, hB3, ho, hdat, hb⟩
       have HNL : Hid (nl.length = 1) := Lib.hid (by
         rw [HXM.out, aw_scan] at hd
         have := congrArg List.length hd
         rw [List.length_map] at this
         exact this)
       rw [HNL.out]
       have HB3 := Lib.hid hb
       clear hd hB3 ho hdat hb))
  refine wp_over (fun V => Hid (V.heap[W3.heap.size]? = some (.cells #[.int .i64 at_, .slice fa fn fc, .slice ca cn cc, .slice na 1 nc, .int .i64 rd, .int .i64 0] 34 (0, 0))) ∧ Hid (Below W3.heap.size W3 V)) ⟨Lib.hid (heap_alloc_new _ _), Lib.hid ((Below.refl _ _).alloc (Nat.le_refl _) _)⟩ ?_
  rintro V ⟨HRS, HVB⟩
  have HWV : Hid (Below W1.heap.size W1 V) := Lib.hid ((HB2.out.trans (HB3.out.mono HB2.out.size)).trans (HVB.out.mono (by have := HB2.out.size; have := HB3.out.size; omega)))
  have HCK := Lib.hid (check_any (some ⟨N, 0, none⟩) 2 2 xs HXL.out (Nat.le_refl _) (by decide) V ((HX.out.later HB1.out).later HWV.out) (fun x hx => HSM.out.ok.ok x.e (List.mem_map_of_mem hx)) HSM.out.ok.asc ((HTW.out.later HB1.out).later HWV.out))
  obtain ⟨R, hR⟩ := ex_eq W3.heap.size
  rw [hR] at HRS ⊢
  clear hR
  go_wp2_with (first
    | (go_at_call 20
       (with_reducible refine HCK.out.mono ?_)
       rintro e W4 ⟨r, rfl, _, hr, hb⟩
       obtain rfl := hr HSM.out.ok
       have HB4 := Lib.hid hb
       obtain ⟨k0, k1, k2, k3, k4, k5⟩ := row6r ((hb.block R (Array.getElem?_eq_some_iff.1 HRS.out).1).trans HRS.out)
       clear hb hr)
    | (go_at_call 11
       (with_reducible refine (H11.out _).mono ?_)
       rintro e W5 ⟨rfl, hb⟩
       have HB5 := Lib.hid hb
       clear hb)
    | (go_at_call 21
       (with_reducible refine (HVC.out _).mono ?_)
       rintro e W6 ⟨rfl, hb⟩
       have HB6 := Lib.hid hb
       clear hb))
  go_ret
  refine ⟨rfl, ?_⟩
  have h1 := HW1.out
  have h2 := HWV.out
  have h4 := HB4.out
  have h5 := HB5.out
  have h6 := HB6.out
  have s1 := h1.size
  have s2 := h2.size
  have s4 := h4.size
  have s5 := h5.size
  exact (((h1.trans (h2.mono s1)).trans (h4.mono (by omega))).trans (h5.mono (by omega))).trans (h6.mono (by omega))
end Go.Proofs.YtmcbnhkcjhlbaaaGreatDoor.Tp
end
