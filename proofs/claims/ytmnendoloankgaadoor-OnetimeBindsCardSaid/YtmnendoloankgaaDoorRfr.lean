/- The document's SHA-256: rotations, constants, padding. -/
import Derived.Test.YtmnendoloankgaaDoorAwa
import Derived.Great.BuildSlice
namespace Go.Proofs.YtmnendoloankgaaDoor
set_option linter.unusedVariables false
set_option linter.unusedSimpArgs false
open Go.RowKit
open Kit (Chg)
open Sha (v)
open Go.Proofs.YtmnendoloankgaaDoor.One

set_option maxHeartbeats 400000 in
theorem refRot_any (x : BitVec 32) (k : Nat) (h0 : 0 < k) (h : k < 32) (w : World) :
    Calls Tryd.prog 121 #[.int .u32 (v x), .int .i64 (k : Int)] w fun e w' => e = .returned (.int .u32 (v (Sha.rot x k))) ∧ ∃ n, w' = w.drewN n := by
  obtain ⟨m, hm⟩ : ∃ m, 32 - k = m := ⟨_, rfl⟩
  have hmi : (32 : Int) - (k : Int) = (m : Int) := by omega
  have hm32 : m < 32 := by omega
  have hm0 : 0 < m := by omega
  have hrot : Sha.rot x k = x >>> k ||| x <<< m := by unfold Sha.rot; rw [hm]
  rw [hrot]
  obtain ⟨Q0, hq0⟩ : ∃ Q : Prop, Hid Q := ⟨True, trivial⟩
  have r2 := Sha.f_shl Q0 m
  have r3 := Sha.f_shr Q0 k
  have r4 := Sha.f_or Q0
  have r9 := Sha.f_nonneg Q0
  clear hm hrot
  go_enter Tryd.func121, Tryd.ntmps121
  go_upto_region 1 with fail
  go_quiet (fail)
  go_wp2_with fail
  go_ret
  exact ⟨rfl, _, rfl⟩
theorem refRot2 (x : BitVec 32) (w : World) : Calls Tryd.prog 121 #[.int .u32 (v x), .int .i64 2] w fun e w' => e = .returned (.int .u32 (v (Sha.rot x 2))) ∧ ∃ n, w' = w.drewN n := refRot_any x 2 (by decide) (by decide) w
theorem refRot6 (x : BitVec 32) (w : World) : Calls Tryd.prog 121 #[.int .u32 (v x), .int .i64 6] w fun e w' => e = .returned (.int .u32 (v (Sha.rot x 6))) ∧ ∃ n, w' = w.drewN n := refRot_any x 6 (by decide) (by decide) w
theorem refRot7 (x : BitVec 32) (w : World) : Calls Tryd.prog 121 #[.int .u32 (v x), .int .i64 7] w fun e w' => e = .returned (.int .u32 (v (Sha.rot x 7))) ∧ ∃ n, w' = w.drewN n := refRot_any x 7 (by decide) (by decide) w
theorem refRot11 (x : BitVec 32) (w : World) : Calls Tryd.prog 121 #[.int .u32 (v x), .int .i64 11] w fun e w' => e = .returned (.int .u32 (v (Sha.rot x 11))) ∧ ∃ n, w' = w.drewN n := refRot_any x 11 (by decide) (by decide) w
theorem refRot13 (x : BitVec 32) (w : World) : Calls Tryd.prog 121 #[.int .u32 (v x), .int .i64 13] w fun e w' => e = .returned (.int .u32 (v (Sha.rot x 13))) ∧ ∃ n, w' = w.drewN n := refRot_any x 13 (by decide) (by decide) w
theorem refRot17 (x : BitVec 32) (w : World) : Calls Tryd.prog 121 #[.int .u32 (v x), .int .i64 17] w fun e w' => e = .returned (.int .u32 (v (Sha.rot x 17))) ∧ ∃ n, w' = w.drewN n := refRot_any x 17 (by decide) (by decide) w
theorem refRot18 (x : BitVec 32) (w : World) : Calls Tryd.prog 121 #[.int .u32 (v x), .int .i64 18] w fun e w' => e = .returned (.int .u32 (v (Sha.rot x 18))) ∧ ∃ n, w' = w.drewN n := refRot_any x 18 (by decide) (by decide) w
theorem refRot19 (x : BitVec 32) (w : World) : Calls Tryd.prog 121 #[.int .u32 (v x), .int .i64 19] w fun e w' => e = .returned (.int .u32 (v (Sha.rot x 19))) ∧ ∃ n, w' = w.drewN n := refRot_any x 19 (by decide) (by decide) w
theorem refRot22 (x : BitVec 32) (w : World) : Calls Tryd.prog 121 #[.int .u32 (v x), .int .i64 22] w fun e w' => e = .returned (.int .u32 (v (Sha.rot x 22))) ∧ ∃ n, w' = w.drewN n := refRot_any x 22 (by decide) (by decide) w
theorem refRot25 (x : BitVec 32) (w : World) : Calls Tryd.prog 121 #[.int .u32 (v x), .int .i64 25] w fun e w' => e = .returned (.int .u32 (v (Sha.rot x 25))) ∧ ∃ n, w' = w.drewN n := refRot_any x 25 (by decide) (by decide) w
def konZ : List Int := [1116352408, 1899447441, 3049323471, 3921009573, 961987163, 1508970993, 2453635748, 2870763221, 3624381080, 310598401, 607225278, 1426881987, 1925078388, 2162078206, 2614888103, 3248222580, 3835390401, 4022224774, 264347078, 604807628, 770255983, 1249150122, 1555081692, 1996064986, 2554220882, 2821834349, 2952996808, 3210313671, 3336571891, 3584528711, 113926993, 338241895, 666307205, 773529912, 1294757372, 1396182291, 1695183700, 1986661051, 2177026350, 2456956037, 2730485921, 2820302411, 3259730800, 3345764771, 3516065817, 3600352804, 4094571909, 275423344, 430227734, 506948616, 659060556, 883997877, 958139571, 1322822218, 1537002063, 1747873779, 1955562222, 2024104815, 2227730452, 2361852424, 2428436474, 2756734187, 3204031479, 3329325298]
def konA : Array Value := (konZ.map (Value.int .u32)).toArray
set_option maxRecDepth 100000 in
theorem konA_eq : konA = (Sha.kList.map fun (n : Nat) => Value.int .u32 (n : Int)).toArray := by kernel_rfl
theorem konA_size : konA.size = 64 := by rw [konA_eq, List.size_toArray, List.length_map, Sha.kList_length]
theorem konA_one : konA.all (·.oneCell') = true := by
  rw [konA, List.all_toArray, List.all_eq_true]
  intro v hv
  obtain ⟨x, _, rfl⟩ := List.mem_map.1 hv
  rfl
theorem konA_get (t : Nat) (h : t < 64) : konA[t]? = some (.int .u32 (v (Sha.kon t))) := by
  rw [konA_eq]
  unfold Sha.kon
  rw [Sha.ofNat_v _ (Sha.kList_lt t h), List.getElem?_toArray, List.getElem?_map, List.getD_eq_getElem?_getD, List.getElem?_eq_getElem (by rw [Sha.kList_length]; exact h)]
  rfl
theorem wpList_buildArrL {P : Program} {ops : Array Oper} {rest : List Oper} {o : Oper} {a : Act} {w : World} {Q : Exit → Act → World → Prop} (hg : o.guard = none) (t e : TypeId) (n : Nat) (parts : Array (Nat × Operand)) (ho : o.op = .build t parts)
    (k : IntKind) (zs : List Int) (K : Array Value) (hc : (zs.map (Value.int k)).toArray = K)
    (hu : P.underlying t = some (.array n e)) (hsz : (P.info? e).map (·.size) = some 1) (hz : ((P.info? t).bind (·.zero)).map (·.cells.size) = some zs.length)
    (hparts : parts.toList = (zs.zipIdx 0).map fun x => (x.2, Operand.const (Value.int k x.1)))
    (h : wpList P ops Q rest (a.put o.dst (.agg K)) w) : wpList P ops Q (o :: rest) a w := by
  subst hc
  exact wpList_buildFlatArr hg t e n parts ho k zs hu hsz hz hparts h
theorem zero149_new (w : World) : (w.alloc (.cells Tryd.zeroW 149)).heap[w.heap.size]? = some (.cells Tryd.zeroW 149 (0, 0)) := heap_alloc_new _ _
theorem Tryd.size149 : (Tryd.prog.info? 149).map (·.size) = some 64 := by kernel_rfl
theorem Tryd.esize149 : (Tryd.prog.info? 127).map (·.size) = some 1 := by kernel_rfl
theorem Tryd.zs149 : ((Tryd.prog.info? 149).bind (·.zero)).map (·.cells.size) = some konZ.length := by kernel_rfl
set_option maxRecDepth 100000 in
theorem refKon_any (w : World) : Calls Tryd.prog 120 #[] w fun e w' => e = .returned (.agg konA) ∧ Below w.heap.size w w' := by
  obtain ⟨KA, hKA⟩ : ∃ K, konA = K := ⟨_, rfl⟩
  have hs := konA_size
  have h1 := konA_one
  rw [hKA] at hs h1
  have HKA := Lib.hid hKA
  have HS := Lib.hid hs
  have H1 := Lib.hid h1
  rw [hKA]
  clear hKA hs h1
  go_enter Tryd.func120, Tryd.ntmps120
  go_upto_region 1 with fail
  refine wp_over (fun W => Hid (W.heap[w.heap.size]? = some (.cells Tryd.zeroW 149 (0, 0))) ∧ Hid (Below w.heap.size w W)) ⟨zero149_new w, (Below.refl _ _).alloc (Nat.le_refl _) _⟩ ?_
  rintro V ⟨HV, HBV⟩
  obtain ⟨N, hN⟩ := ex_eq w.heap.size
  rw [hN] at HV HBV ⊢
  have HN := Lib.hid hN
  clear hN
  go_wp2_with (first
    | (refine wpList_buildArrL rfl 149 127 64 _ rfl .u32 konZ KA HKA.out Tryd.underlying149 Tryd.esize149 Tryd.zs149 (by kernel_rfl) ?_)
    | (refine wpList_store_row rfl 149 (.tmp 0) (.tmp 1) rfl N KA (by rfl) (by rfl) 149 Tryd.zeroW (by exact HV.out) (by rw [HS.out]; exact Tryd.size149) (by rw [HS.out]; exact Tryd.zeroW_size) H1.out ?_))
  refine bodyPost_ret (results_cell_row (p := 0) rfl _ _ N 149 KA (0, 0) _ (by rfl) (setRow_heap _ _ _ _ _ _ HV.out) Tryd.underlying149 rfl (by rw [HS.out]; exact Tryd.size149)) rfl ⟨rfl, ?_⟩
  rw [HN.out]; exact below_setRow HBV.out (Nat.le_refl _) _
end Go.Proofs.YtmnendoloankgaaDoor
