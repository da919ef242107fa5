/- Texts Summ, Sums, Nb, Join, Pad of the proof, each as a section; no premises beyond those that each theorem states. -/
import Derived.Deep.WholeRow
import Derived.Lib.ConvBytes
import Derived.Test.YtmcbnhkcjhlbaaaGreatDoorP02
set_option linter.unusedVariables false
set_option linter.unusedSimpArgs false
section
namespace Go.Proofs.YtmcbnhkcjhlbaaaGreatDoor
open Go.RowKit
open Kit (Chg)
open Sha (v)

theorem wpList_load_cells {P : Program} {ops : Array Oper} {rest : List Oper} {o : Oper} {a : Act} {w : World} {Q : Exit → Act → World → Prop} (hgd : o.guard = none) (ty : TypeId) (x : Operand) (ho : o.op = .load ty x)
    (g off : Nat) (hx : a.eval x = .pointer (some ⟨g, off, none⟩)) (cs : List Value) (hc : ∀ j u, cs[j]? = some u → w.cell? ⟨g, off + j, none⟩ = some u) (d : TypeDesc)
    (hu : P.underlying ty = some d) (hd : (match d with | .struct _ | .array _ _ => true | _ => false) = true) (hi : (P.info? ty).map (·.size) = some cs.length) (R : Array Value) (hR : cs.toArray = R)
    (h : wpList P ops Q rest (a.put o.dst (.agg R)) w) : wpList P ops Q (o :: rest) a w := by
  subst hR
  refine wpList_plain hgd fun _ hK => ?_
  have hl : (loadCells ⟨g, off, none⟩ cs.length).run P w = .ok cs.toArray w :=
    run_loadCells_list (P := P) w ⟨g, off, none⟩ cs (fun j v hv => by rw [add_none]; exact hc j v hv)
  have hrun : (loadVar ty ⟨g, off, none⟩).run P w = .ok (.agg cs.toArray) w := by
    cases hq : P.info? ty with
    | none => simp [hq] at hi
    | some i =>
      have hs : i.size = cs.length := by simpa [hq] using hi
      have hagg : (isAgg ty).run P w = .ok true w := by
        unfold isAgg
        rw [Sem.run_bind, run_underlying hu w]
        cases d <;> simp_all
      simp [loadVar, Sem.run_bind, hagg, sizeOf, typeInfo, hq, hs, hl]
  unfold Oper.wp execOp
  simp only [ho, hx, Instr.loadAt, Instr.sureAddr, Sem.run_bind, Sem.run_pure, Result.andThen_ok, hrun]
  exact hK _ _ h

theorem StateAt.cells {w : World} {b o : Nat} {ps : List Nat} (h : StateAt w b o ps) : ∃ cs : List Value, cs.length = 73 ∧ (∀ j u, cs[j]? = some u → w.cell? ⟨b, o + j, none⟩ = some u) ∧ (∀ u ∈ cs, u.oneCell' = true) ∧
    (∀ (w' : World) (N : Nat) (t : TypeId), w'.heap[N]? = some (.cells cs.toArray t (0, 0)) → StateAt w' N 0 ps) := by
  obtain ⟨R, t, hr, hs⟩ := h.row
  have hget : ∀ j, j < 73 → ((R.toList.drop o).take 73)[j]? = R[o + j]? := fun j hj => by
    rw [List.getElem?_take_of_lt hj, List.getElem?_drop, Array.getElem?_toList]
  have hcell : ∀ j, w.cell? ⟨b, o + j, none⟩ = R[o + j]? := fun j => cell_of_row _ _ _ _ _ _ hr
  have hlen : ((R.toList.drop o).take 73).length = 73 := by rw [List.length_take, List.length_drop, Array.length_toList]; omega
  refine ⟨(R.toList.drop o).take 73, hlen, fun j u hj => ?_, fun u hu => ?_, fun w' N t' hN => ?_⟩
  · have hj2 : j < 73 := by have := (List.getElem?_eq_some_iff.1 hj).1; omega
    rw [hcell, ← hget j hj2]; exact hj
  · obtain ⟨j, hj, rfl⟩ := List.getElem_of_mem hu
    have hj2 : j < 73 := by omega
    have e : w.cell? ⟨b, o + j, none⟩ = some ((R.toList.drop o).take 73)[j] := by rw [hcell, ← hget j hj2, List.getElem?_eq_getElem hj]
    by_cases h1 : j < 8
    · have := h.words j h1
      rw [e] at this; rw [Option.some.inj this]; rfl
    · by_cases h2 : j < 72
      · obtain ⟨x, _, hx⟩ := h.buf (j - 8) (by omega)
        rw [show o + 8 + (j - 8) = o + j by omega, e] at hx; rw [Option.some.inj hx]; rfl
      · have e2 : j = 72 := by omega
        subst e2
        have := h.len
        rw [e] at this; rw [Option.some.inj this]; rfl
  · have hc : ∀ j u, j < 73 → w.cell? ⟨b, o + j, none⟩ = some u → w'.cell? ⟨N, j, none⟩ = some u := fun j u hj hu => by
      rw [cell_of_row _ _ _ _ _ _ hN, List.getElem?_toArray, hget j hj, ← hcell]; exact hu
    have hm := Nat.mod_lt ps.length (show 0 < 64 by decide)
    refine ⟨⟨_, t', hN, by rw [List.size_toArray, hlen]; exact Nat.le_refl _⟩, fun i hi => ?_, fun i hi => ?_, fun i hi => ?_, ?_, h.bytes⟩
    · rw [Nat.zero_add]; exact hc i _ (by omega) (h.words i hi)
    · obtain ⟨x, hx, hcx⟩ := h.buf i hi
      exact ⟨x, hx, by rw [Nat.zero_add]; exact hc (8 + i) _ (by omega) (by rw [← Nat.add_assoc]; exact hcx)⟩
    · rw [Nat.zero_add]; exact hc (8 + i) _ (by omega) (by rw [← Nat.add_assoc]; exact h.held i hi)
    · rw [Nat.zero_add]; exact hc 72 _ (by omega) h.len
theorem Tryz.zcells172 : Tryz.zeroCells172.size = 73 := by kernel_rfl
theorem Tryz.size143 : (Tryz.prog.info? 172).map (·.size) = some 73 := by kernel_rfl
def padTo (k : Nat) : List Nat := 128 :: List.replicate k 0
theorem all_one {cs : List Value} (h : ∀ u ∈ cs, u.oneCell' = true) : cs.toArray.all (·.oneCell') = true := by
  rw [List.all_toArray, List.all_eq_true]; exact h
theorem padTo_succ (k : Nat) : padTo (k + 1) = padTo k ++ [0] := by simp [padTo, List.replicate_succ']
theorem pad_cond (n k : Nat) (hk : k ≤ Sha.zeros n) : (n + (k + 1)) % 64 = 56 ↔ k = Sha.zeros n := by
  unfold Sha.zeros at *
  omega

def wordsL (S : Sha.St) : List Value := [.int .u32 (v S.a), .int .u32 (v S.b), .int .u32 (v S.c), .int .u32 (v S.d), .int .u32 (v S.e), .int .u32 (v S.f), .int .u32 (v S.g), .int .u32 (v S.h)]
theorem wordsL_get (S : Sha.St) (j : Nat) (h : j < 8) : (wordsL S)[j]? = some (.int .u32 (v (S.list.getD j 0))) := by
  match j, h with
  | 0, _ => rfl
  | 1, _ => rfl
  | 2, _ => rfl
  | 3, _ => rfl
  | 4, _ => rfl
  | 5, _ => rfl
  | 6, _ => rfl
  | 7, _ => rfl
theorem cells_new_at (w : World) (xs : List Value) (e : TypeId) (j : Nat) (u : Value) (h : xs[j]? = some u) : (w.alloc (.cells xs.toArray e (0, 0))).cell? ⟨w.heap.size, 0 + j, none⟩ = some u := by
  rw [cell_of_row _ _ _ _ _ _ (heap_alloc_new _ _), Nat.zero_add, List.getElem?_toArray]; exact h
theorem ex_eq {α : Type} (a : α) : ∃ b, a = b := ⟨a, rfl⟩
theorem be8_take (n j : Nat) (h : j < 8) : (Sha.be8 n).take (j + 1) = (Sha.be8 n).take j ++ [n / 256 ^ (7 - j) % 256] := by
  rw [List.take_add_one]
  congr 1
  simp [Sha.be8, h]
theorem digest_take (S : Sha.St) (k : Nat) (h : k < 8) : (Sha.digest S).take (4 * (k + 1)) = (Sha.digest S).take (4 * k) ++ Sha.bytes4 (S.list.getD k 0) := by
  match k, h with
  | 0, _ => rfl
  | 1, _ => rfl
  | 2, _ => rfl
  | 3, _ => rfl
  | 4, _ => rfl
  | 5, _ => rfl
  | 6, _ => rfl
  | 7, _ => rfl
theorem shift_byte (n j q : Nat) (h : j < 8) (hq : 56 - 8 * (j : Int) = (q : Int)) : ((n : Nat) : Int) * 8 / 2 ^ min q 64 % 256 = ((8 * n / 256 ^ (7 - j) % 256 : Nat) : Int) := by
  have e : min q 64 = 8 * (7 - j) := by omega
  rw [e, Int.pow_mul]
  rw [show (2 : Int) ^ 8 = ((256 : Nat) : Int) by rfl, Nat.mul_comm 8 n]
  rw [Int.natCast_emod, Int.natCast_ediv, Int.natCast_mul, Int.natCast_pow]
  rfl

set_option maxRecDepth 100000 in
set_option maxHeartbeats 2000000 in
theorem stateSum_any (b o : Nat) (ps : List Nat) (hl : ps.length ≤ 100000000000) (w : World) (h : StateAt w b o ps) (hK : KonAt w) :
    Calls Tryz.prog 38 #[.pointer (some ⟨b, o, none⟩)] w fun e w' => ∃ bs : List Nat, e = .returned (.string (strB bs)) ∧ bs = Sha.sum ps ∧ Below w.heap.size w w' := by
  have HH := Lib.hid h
  have HK := Lib.hid hK
  obtain ⟨cs, hcl, hcc, hc1, hcn⟩ := h.cells
  have hrs : cs.toArray.size = 73 := by rw [List.size_toArray]; exact hcl
  have hr1 := all_one hc1
  obtain ⟨R, hR⟩ : ∃ R, cs.toArray = R := ⟨_, rfl⟩
  rw [hR] at hcn hrs hr1
  have HR := Lib.hid hR
  have HRS := Lib.hid hrs
  have HR1 := Lib.hid hr1
  have HCC := Lib.hid hcc
  have HCN := Lib.hid hcn
  have HCL := Lib.hid hcl
  have HC1 := Lib.hid hc1
  have hlen := h.len
  clear h hK hcc hcn hc1 hcl hR hrs hr1
  obtain ⟨i0, hi, hz0, hz1, hz2⟩ := info_parts Tryz.info5
  have FI := Lib.hid hi
  have FZ0 := Lib.hid hz0
  have FZ1 := Lib.hid hz1
  have FZ2 := Lib.hid hz2
  clear hi hz0 hz1 hz2
  have hst := run_storeCells_new (P := Tryz.prog) w 172 Tryz.zeroCells172 R (by rw [HRS.out]; exact Tryz.size143) (by rw [HRS.out]; exact Tryz.zcells172) HR1.out
  go_enter Tryz.func38, Tryz.ntmps38
  go_upto_region 2 with (first
    | (with_reducible refine wpList_load_cells rfl 172 (.tmp 11) rfl b o rfl cs HCC.out _ Tryz.underlying172 rfl (by rw [HCL.out]; exact Tryz.size143) R HR.out ?_))
  clear hst
  refine wp_over (fun W => Hid (StateAt W w.heap.size 0 ps) ∧ Hid (Below w.heap.size w W) ∧ Hid (W.heap.size = w.heap.size + 1)) ⟨?_, ?_, ?_⟩ ?_
  · exact HCN.out _ _ 172 (heap_alloc_new _ _)
  · exact (Below.refl _ _).alloc (Nat.le_refl _) _
  · show _ = _; simp
  rintro V ⟨HV, HBV, HSV⟩
  generalize hN : w.heap.size = N at HV HBV HSV ⊢
  have HN := Lib.hid hN
  clear hN
  have hmod : ∀ k, k ≤ Sha.zeros ps.length → (((ps.length : Nat) : Int) + (((k + 1 : Nat)) : Int)).tmod 64 = (((ps.length + (k + 1)) % 64 : Nat) : Int) := fun k _ => by
    rw [Int.tmod_eq_emod_of_nonneg (by omega)]; omega
  have HOW0 : Hid ((V.alloc (.cells #[.int .u8 128] 5)).ownsRow (N + 1) 5 1 (.slice (some ⟨V.heap.size, 0, none⟩) 1 1) (0 + 1) (bvals (padTo 0))) :=
    ⟨rfl, .inr ⟨V.heap.size, 1, #[.int .u8 128], rfl, by rw [HSV.out]; exact Nat.le_refl _, heap_alloc_new _ _, Nat.le_refl _, by unfold maxLen; omega, rfl, rfl⟩⟩
  have HB0 : Hid (Below (N + 1) V (V.alloc (.cells #[.int .u8 128] 5))) := (Below.refl _ _).alloc (by rw [HSV.out]; exact Nat.le_refl _) _
  have hz64 : Sha.zeros ps.length < 64 := by unfold Sha.zeros; omega
  have HPC := Lib.hid (fun k hk => pad_cond ps.length k hk)
  obtain ⟨z, hz⟩ : ∃ z, Sha.zeros ps.length = z := ⟨_, rfl⟩
  rw [hz] at HPC hz64 hmod
  have HZ := Lib.hid hz
  clear hz
  have HMOD := Lib.hid hmod
  clear hmod
  have hlenV : ∀ V', Below (N + 1) V V' → V'.cell? ⟨b, o + 72, none⟩ = some (.int .i64 ps.length) := fun V' h => by
    have h1 : V.cell? ⟨b, o + 72, none⟩ = some (.int .i64 ps.length) := (HBV.out.cell (p := ⟨b, o + 72, none⟩) (by have := HH.out.lt; have := HN.out; show b < N; omega)).trans hlen
    exact (h.cell (p := ⟨b, o + 72, none⟩) (by have := HH.out.lt; have := HN.out; show b < N + 1; omega)).trans h1
  have HLV := Lib.hid hlenV
  clear hlenV hlen
  go_wp2_with fail
  go_loopw [4] (fun x wr => ∃ k : Nat, k ≤ z ∧ Hid (wr.ownsRow (N + 1) 5 1 x (k + 1) (bvals (padTo k))) ∧ Hid (Below (N + 1) V wr) ∧ N + 1 ≤ wr.heap.size) (fun x _ => z + 1 - sliceLen x)
  case atStart => exact ⟨0, Nat.zero_le _, HOW0.out, HB0.out, by have := HSV.out; simp; omega⟩
  case round =>
    obtain ⟨k, hk, HOW, HBE, hsz⟩ := hrel
    obtain ⟨g, cp, rfl⟩ := ownsRow_succ HOW.out
    have hlr := HLV.out _ HBE.out
    obtain ⟨L, hL⟩ : ∃ L, k + 1 = L := ⟨_, rfl⟩
    obtain ⟨r, hr⟩ : ∃ r, (ps.length + L) % 64 = r := ⟨_, rfl⟩
    have hm : ((ps.length : Int) + (L : Int)).tmod 64 = (r : Int) := by rw [Int.tmod_eq_emod_of_nonneg (by omega)]; omega
    have hm2 : ((ps.length : Int) + (L : Int)) % 64 = (r : Int) := by omega
    have HRK : Hid (r = 56 ↔ k = z) := by have h := HPC.out k hk; rw [hL, hr] at h; exact h
    have HBP := Lib.hid (show bvals (padTo k) ++ [.int .u8 0] = bvals (padTo (k + 1)) by rw [padTo_succ, bvals_append]; rfl)
    rw [hL] at HOW ⊢
    have HL := Lib.hid hL
    have hLb : L ≤ 64 := by omega
    clear hL hr
    by_cases hkz : k < z
    · have hne : ((r : Int) != 56) = true := by
        rw [bne_iff_ne]; intro h; have := HRK.out.1 (by omega); omega
      go_wp2_with (first
        | (at_builtin
           refine wpList_append_own _ rfl _ _ 52 rfl (N + 1) 5 i0 (.int .u8 0) 1 1 Tryz.underlying52 FI.out FZ0.out FZ1.out FZ2.out rfl (by decide) _ _ _ rfl (HOW.out.alloc _) ⟨wr.heap.size, 0, none⟩ 1 1 [.int .u8 0] rfl rfl (cell_one_new _ _ _) (by simp [Value.oneCell']) (by unfold maxLen; omega) (by omega) (by simp; omega) ?_
           intro v' w4 hown4 hgr4 _
           have HO4 : Hid (w4.ownsRow (N + 1) 5 1 v' (L + 1) (bvals (padTo (k + 1)))) := by rw [← HBP.out]; exact hown4
           have HC4 : Hid (Chg (fun q _ => N + 1 ≤ q) wr w4) := (Chg.alloc1 wr _).trans (Chg.of_grown hgr4 (fun q _ e => (HOW.out.lt q e).1))
           clear hown4 hgr4
           obtain ⟨g4, cp4, hv4⟩ := ownsRow_succ HO4.out
           subst hv4))
      go_roundw
      case rel => exact ⟨k + 1, by omega, by have h := HO4.out; rw [HL.out] at h ⊢; exact h, HBE.out.trans (HC4.out.below hsz (fun q i hq h => by omega)), by have := HC4.out.size; omega⟩
      case measure => have := HL.out; simp [sliceLen]; omega
    · have hne : ((r : Int) != 56) = false := by
        have h := HRK.out.2 (by omega)
        rw [h]; rfl
      have hkz2 : k = z := by omega
      have HKZ := Lib.hid hkz2
      clear hkz2
      have hwr8 : IntKind.u64.wrap ((ps.length : Nat) : Int) = (ps.length : Int) := by rw [IntKind.wrap_u64]; omega
      have HOWZ : Hid (wr.ownsRow (N + 1) 5 1 (.slice (some ⟨g, 0, none⟩) L cp) (L + 0) (bvals (padTo z ++ (Sha.be8 (8 * ps.length)).take 0))) := by
        have h := HOW.out
        rw [HKZ.out] at h
        rw [List.take_zero, List.append_nil]; exact h
      have HLZ : Hid (z + 1 = L) := Lib.hid (by have := HKZ.out; have := HL.out; omega)
      go_wp2_with fail
      clear HOW HBP HRK hlr hm hm2 hne HL
      go_loopw [4, 6] (fun x y W2 => ∃ j : Nat, j ≤ 8 ∧ Hid (y = .int .i64 (56 - 8 * (j : Int))) ∧ Hid (W2.ownsRow (N + 1) 5 1 x (L + j) (bvals (padTo z ++ (Sha.be8 (8 * ps.length)).take j))) ∧ Hid (Below (N + 1) V W2) ∧ N + 1 ≤ W2.heap.size) (fun x _ _ => L + 9 - sliceLen x)
      case atStart => exact ⟨0, by omega, rfl, HOWZ.out, HBE.out, hsz⟩
      case round =>
        obtain ⟨j, hj, HY, HOW, HBE2, hsz2⟩ := hrel
        by_cases hj8 : j < 8
        · obtain ⟨q, hq⟩ : ∃ q : Nat, 56 - 8 * (j : Int) = (q : Int) := ⟨56 - 8 * j, by omega⟩
          have hY := HY.out
          rw [hq] at hY
          subst hY
          clear HY
          have hwq : wrap64 ((q : Int) - 8) = (q : Int) - 8 := by unfold wrap64; omega
          have HQ := Lib.hid hq
          clear hq
          have HBY : Hid (((ps.length : Nat) : Int) * 8 / 2 ^ min q 64 % 256 = ((8 * ps.length / 256 ^ (7 - j) % 256 : Nat) : Int)) := Lib.hid (shift_byte ps.length j q hj8 HQ.out)
          have HBT : Hid (bvals (padTo z ++ (Sha.be8 (8 * ps.length)).take j) ++ [.int .u8 (((ps.length : Nat) : Int) * 8 / 2 ^ min q 64 % 256)] = bvals (padTo z ++ (Sha.be8 (8 * ps.length)).take (j + 1))) := Lib.hid (by
            rw [be8_take _ _ hj8, ← List.append_assoc, bvals_snoc, HBY.out])
          obtain ⟨M, hM⟩ : ∃ M, L + j = M := ⟨_, rfl⟩
          rw [hM] at HOW
          have HM := Lib.hid hM
          have hMb : M ≤ 100 := by omega
          clear hM
          have hu4 : sliceLen u4 = M := by
            obtain ⟨M', rfl⟩ : ∃ M', M = M' + 1 := ⟨M - 1, by have := HM.out; have := HLZ.out; omega⟩
            obtain ⟨g4, cp4, rfl⟩ := ownsRow_succ HOW.out
            rfl
          have HU4 := Lib.hid hu4
          clear hu4
          go_upto_region 9 with fail
          go_wp2_with (first
            | (at_builtin
               refine wpList_append_own _ rfl _ _ 52 rfl (N + 1) 5 i0 (.int .u8 0) 1 1 Tryz.underlying52 FI.out FZ0.out FZ1.out FZ2.out rfl (by decide) _ _ _ rfl (HOW.out.alloc _) ⟨wr.heap.size, 0, none⟩ 1 1 [.int .u8 (((ps.length : Nat) : Int) * 8 / 2 ^ min q 64 % 256)] rfl rfl (cell_one_new _ _ _) (by simp [Value.oneCell']) (by unfold maxLen; omega) (by omega) (by simp; omega) ?_
               intro v' w4 hown4 hgr4 _
               have HO4 : Hid (w4.ownsRow (N + 1) 5 1 v' (M + 1) (bvals (padTo z ++ (Sha.be8 (8 * ps.length)).take (j + 1)))) := by rw [← HBT.out]; exact hown4
               have HC4 : Hid (Chg (fun q _ => N + 1 ≤ q) wr w4) := (Chg.alloc1 wr _).trans (Chg.of_grown hgr4 (fun q _ e => (HOW.out.lt q e).1))
               clear hown4 hgr4
               obtain ⟨g4, cp4, hv4⟩ := ownsRow_succ HO4.out
               subst hv4))
          go_roundw
          case rel => exact ⟨j + 1, by omega, Lib.hid (by have := HQ.out; congr 1; omega), by have h := HO4.out; rw [← HM.out] at h ⊢; exact h, HBE2.out.trans (HC4.out.below hsz2 (fun q i hq h => by omega)), by have := HC4.out.size; omega⟩
          case measure => rw [HU4.out]; have := HM.out; simp [sliceLen]; omega
        · have e8 : j = 8 := by omega
          subst e8
          have hY := HY.out
          rw [show (56 : Int) - 8 * ((8 : Nat) : Int) = -8 by decide] at hY
          subst hY
          clear HY
          have hpd : padTo z ++ (Sha.be8 (8 * ps.length)).take 8 = 128 :: (List.replicate z 0 ++ Sha.be8 (8 * ps.length)) := by
            rw [List.take_of_length_le (by rw [Sha.be8_length]; exact Nat.le_refl _)]; rfl
          obtain ⟨pd, hpdd⟩ : ∃ pd, 128 :: (List.replicate z 0 ++ Sha.be8 (8 * ps.length)) = pd := ⟨_, rfl⟩
          have hpp : ps ++ pd = Sha.pad ps := by rw [← hpdd, ← HZ.out]; rfl
          have hpb : ∀ x ∈ pd, x < 256 := fun x hx => by
            rw [← hpdd] at hx
            rcases List.mem_cons.1 hx with e | hx
            · omega
            · rcases List.mem_append.1 hx with hx | hx
              · have := List.eq_of_mem_replicate hx; omega
              · exact Sha.be8_lt _ _ hx
          rw [hpd, hpdd] at HOW
          have hpl : pd.length = L + 8 := by rw [← hpdd]; have := HLZ.out; simp [Sha.be8_length]; omega
          obtain ⟨hn8, a8, cp8, hv8, hcap8, hcm8, hB8, hnil8⟩ := bytes_of_own HOW.out hpb (by unfold maxLen; omega)
          have hblk : ∀ ad, a8 = some ad → N + 1 ≤ ad.block := fun ad e => by
            subst e; subst hv8
            exact (HOW.out.lt ad.block rfl).1
          subst hv8
          clear hn8 HOW
          have HPP := Lib.hid hpp
          have HBLK := Lib.hid hblk
          have HB8 := Lib.hid hB8
          have HCAP8 := Lib.hid hcap8
          have HNIL8 := Lib.hid hnil8
          have hlp : ps.length + pd.length ≤ 1000000000000 := by omega
          have HLP := Lib.hid hlp
          have HKR : Hid (KonAt wr) := Lib.hid (fun t ht => by
            have h1 := HK.out t ht
            have h2 : w.heap.size = N := HN.out
            have hlt : 1 < w.heap.size := World.block_lt_of_cell? w _ h1
            exact ((HBE2.out.cell (p := ⟨1, t, none⟩) (by show 1 < N + 1; omega)).trans (HBV.out.cell (p := ⟨1, t, none⟩) (by show 1 < N; omega))).trans h1)
          have HNK : Hid (N ≠ 1) := Lib.hid (by
            have hlt : 1 < w.heap.size := World.block_lt_of_cell? w _ (HK.out 0 (by decide))
            have h2 : w.heap.size = N := HN.out
            omega)
          have HVR : Hid (StateAt wr N 0 ps) := Lib.hid (HV.out.keep (Chg.of_below' (M := fun g _ => N + 1 ≤ g) HBE2.out (fun k i h _ => h)) (fun i _ _ h => by omega))
          clear hpd hpdd hpp hpb hpl hcap8 hcm8 hB8 hnil8 hblk hlp HZ HPC HMOD HLV
          have hmk : ∀ W, (Instr.makeSlice 52 (.int .i64 0) (.int .i64 32)).run Tryz.prog W = .ok (.slice (some ⟨W.heap.size, 0, none⟩) 0 32) (W.alloc (.cells (Array.replicate 32 (.int .u8 0)) 5)) := fun _ => by kernel_rfl
          obtain ⟨S, hS⟩ := ex_eq (Sha.hs (Sha.pad ps) (Sha.pad ps).length)
          have HS := Lib.hid hS
          clear hS
          obtain ⟨RW, hRW⟩ := ex_eq (wordsL S).toArray
          have HRW := Lib.hid hRW
          clear hRW
          go_upto_region 11 with (first
            | (with_reducible refine (write_any N 0 ps a8 cp8 pd HCAP8.out HNIL8.out HLP.out wr HVR.out HB8.out (fun ad e _ => by have := HBLK.out ad e; omega) HKR.out HNK.out).mono ?_
               rintro e w5 ⟨rfl, h5, h6⟩
               have H5 := Lib.hid h5
               have H6 := Lib.hid h6
               clear h5 h6))
          have HB5 : Hid (Below N w w5) := Lib.hid ((HBV.out.trans (HBE2.out.mono (Nat.le_succ N))).trans (H6.out.below (by have := HN.out; omega) (fun k i hk h => by have := h.1; omega)))
          have hw5s : N + 1 ≤ w5.heap.size := by have := H6.out.size; omega
          have HW8 : Hid (WordsAt w5 N 0 S) := Lib.hid (by have h := H5.out.words; rw [HPP.out, HS.out] at h; exact h)
          have H12 : Hid (∀ W, Below (N + 1) w5 W → ∀ j u, (wordsL S)[j]? = some u → W.cell? ⟨N, 0 + j, none⟩ = some u) := Lib.hid (fun W hW j u hj => by
            have hj8 : j < 8 := (List.getElem?_eq_some_iff.1 hj).1
            rw [wordsL_get S j hj8] at hj
            cases hj
            exact (hW.cell (p := ⟨N, 0 + j, none⟩) (Nat.lt_succ_self N)).trans (HW8.out j hj8))
          go_upto_region 12 with fail
          go_upto_region 13 with (first
            | (with_reducible refine wpList_load_cells rfl 170 (.tmp 46) rfl N 0 rfl (wordsL S) (H12.out _ ((Below.refl _ _).alloc hw5s _)) _ Tryz.underlying170 rfl rfl RW HRW.out ?_))
          have HIX : Hid (∀ k, k < 8 → ∀ W, (Instr.index 170 (.agg RW) (.int .i64 ((k : Nat) : Int))).run Tryz.prog W = .ok (.int .u32 (v (S.list.getD k 0))) W) := Lib.hid (fun k hk W => by rw [← HRW.out]; exact run_idx8 S k hk W)
          have HOW7 : Hid ((w5.alloc (.cells (Array.replicate 32 (.int .u8 0)) 5)).ownsRow (N + 1) 5 1 (.slice (some ⟨w5.heap.size, 0, none⟩) 0 32) (4 * 0) (bvals ((Sha.digest S).take (4 * 0)))) :=
            ⟨rfl, .inr ⟨w5.heap.size, 32, Array.replicate 32 (.int .u8 0), rfl, hw5s, heap_alloc_new _ _, by decide, by unfold maxLen; omega, rfl, rfl⟩⟩
          have HBA : Hid (Below (N + 1) w5 (w5.alloc (.cells (Array.replicate 32 (.int .u8 0)) 5))) := (Below.refl _ _).alloc hw5s _
          obtain ⟨W6, hW6⟩ := ex_eq (w5.alloc (.cells (Array.replicate 32 (.int .u8 0)) 5))
          rw [hW6] at HOW7 HBA ⊢
          have hw6s : N + 1 ≤ W6.heap.size := by have := HBA.out.size; omega
          clear hW6 hmk
          go_loopw [7, 48] (fun x y W2 => ∃ k : Nat, k ≤ 8 ∧ y = .int .i64 (k : Int) ∧ Hid (W2.ownsRow (N + 1) 5 1 x (4 * k) (bvals ((Sha.digest S).take (4 * k)))) ∧ Hid (Below (N + 1) W6 W2) ∧ N + 1 ≤ W2.heap.size) (fun _ y _ => 8 - (intOf y).toNat)
          case atStart => exact ⟨0, by omega, rfl, HOW7.out, (Below.refl _ _), hw6s⟩
          case round =>
            obtain ⟨k8, hk8, rfl, HOW, HBE6, hsz6⟩ := hrel
            by_cases hk9 : k8 < 8
            · have hidx := HIX.out k8 hk9
              have hdt := digest_take S k8 hk9
              obtain ⟨X, hX⟩ := ex_eq (S.list.getD k8 0)
              rw [hX] at hidx hdt
              have HB4 : Hid (bvals ((Sha.digest S).take (4 * k8)) ++ [.int .u8 (v X / 16777216 % 256), .int .u8 (v X / 65536 % 256), .int .u8 (v X / 256 % 256), .int .u8 (v X % 256)] = bvals ((Sha.digest S).take (4 * (k8 + 1)))) := Lib.hid (by
                rw [hdt, bvals_append]; rfl)
              clear hdt hX
              obtain ⟨M7, hM7⟩ := ex_eq (4 * k8)
              have HM7 := Lib.hid hM7
              rw [hM7] at HOW HB4
              have hM7b : M7 ≤ 32 := by omega
              clear hM7
              go_upto_region 15 with fail
              go_wp2_with (first
                | (at_builtin
                   refine wpList_append_own _ rfl _ _ 52 rfl (N + 1) 5 i0 (.int .u8 0) 1 1 Tryz.underlying52 FI.out FZ0.out FZ1.out FZ2.out rfl (by decide) _ _ _ rfl (HOW.out.alloc _) ⟨wr.heap.size, 0, none⟩ 4 4 [.int .u8 (v X / 16777216 % 256), .int .u8 (v X / 65536 % 256), .int .u8 (v X / 256 % 256), .int .u8 (v X % 256)] rfl rfl (by intro j u hu; rw [add_none]; exact cells_new_at _ _ _ j u hu) (by simp [Value.oneCell']) (by unfold maxLen; omega) (by omega) (by simp; omega) ?_
                   intro v' w4 hown4 hgr4 _
                   have HO4 : Hid (w4.ownsRow (N + 1) 5 1 v' (M7 + 4) (bvals ((Sha.digest S).take (4 * (k8 + 1))))) := by rw [← HB4.out]; exact hown4
                   have HC4 : Hid (Chg (fun q _ => N + 1 ≤ q) wr w4) := (Chg.alloc1 wr _).trans (Chg.of_grown hgr4 (fun q _ e => (HOW.out.lt q e).1))
                   clear hown4 hgr4))
              go_roundw
              case rel => exact ⟨k8 + 1, by omega, rfl, by have h := HO4.out; rw [← HM7.out] at h; exact h, HBE6.out.trans (HC4.out.below hsz6 (fun q i hq h => by omega)), by have := HC4.out.size; omega⟩
              case measure => simp [intOf]; omega
            · have e8 : k8 = 8 := by omega
              subst e8
              rw [show (Sha.digest S).take (4 * 8) = Sha.digest S from List.take_of_length_le (by rw [Sha.digest_length]; exact Nat.le_refl _)] at HOW
              have hD0 : Sha.digest S = Sha.sum ps := by unfold Sha.sum; rw [HS.out]
              have hDb : ∀ x ∈ Sha.sum ps, x < 256 := Sha.sum_lt ps
              have hDl : (Sha.sum ps).length = 32 := Sha.sum_length ps
              rw [hD0] at HOW
              obtain ⟨D, hD⟩ := ex_eq (Sha.sum ps)
              rw [hD] at HOW hDb hDl
              have HD := Lib.hid hD
              clear hD hD0
              obtain ⟨hn9, a9, cp9, hv9, hcap9, hcm9, hB9, hnil9⟩ := bytes_of_own HOW.out hDb (by unfold maxLen; omega)
              subst hv9
              have hcv := conv_bytes hB9 cp9
              rw [hDl] at hcv ⊢
              clear hn9 hcap9 hcm9 hnil9
              have HBF : Hid (Below N w wr) := Lib.hid (((HB5.out.trans (HBA.out.mono (Nat.le_succ N)))).trans (HBE6.out.mono (Nat.le_succ N)))
              go_wp2_with fail
              go_ret
              exact ⟨D, rfl, HD.out.symm, by rw [HN.out]; exact HBF.out⟩
end Go.Proofs.YtmcbnhkcjhlbaaaGreatDoor
end
section
namespace Go.Proofs.YtmcbnhkcjhlbaaaGreatDoor
open Go.RowKit
open Kit (Chg)
open Sha (v)

theorem KonAt.later {w w' : World} (h : KonAt w) (hb : Below w.heap.size w w') : KonAt w' := fun t ht => (hb.cell (p := ⟨1, t, none⟩) (World.block_lt_of_cell? w _ (h t ht))).trans (h t ht)
theorem KonAt.lt {w : World} (h : KonAt w) : 1 < w.heap.size := World.block_lt_of_cell? w _ (h 0 (by decide))

set_option maxHeartbeats 1000000 in
theorem sum_any (a : Option Addr) (cap : Nat) (xs : List Nat) (hcap : xs.length ≤ cap) (hnil : a = none → cap = 0) (hl : xs.length ≤ 100000000000) (w : World) (hB : BytesAt w a xs) (hlt : ∀ ad, a = some ad → 0 < xs.length → ad.block < w.heap.size) (hK : KonAt w) (hI : InitAt w) :
    Calls Tryz.prog 14 #[.slice a xs.length cap] w fun e w' => ∃ bs : List Nat, e = .returned (.string (strB bs)) ∧ bs = Sha.sum xs ∧ Below w.heap.size w w' := by
  have HB := Lib.hid hB
  have HK := Lib.hid hK
  have HI := Lib.hid hI
  have HNIL := Lib.hid hnil
  have HCAP := Lib.hid hcap
  have HLT := Lib.hid hlt
  have HL := Lib.hid hl
  clear hB hK hI hnil hcap hlt hl
  go_enter Tryz.func14, Tryz.ntmps14
  go_upto_region 2 with (first
    | (with_reducible refine (newState_any _ HI.out).mono ?_
       rintro e w1 ⟨rfl, h1⟩
       have H1 := Lib.hid h1
       clear h1))
  obtain ⟨N, hN⟩ := ex_eq w.heap.size
  have HS1 : Hid (StateAt w1 N 0 []) := Lib.hid (by rw [H1.out, ← hN]; exact state_new (heap_alloc_new _ _))
  have HB1 : Hid (Below N w w1) := Lib.hid (by rw [H1.out, ← hN]; exact (Below.refl _ _).alloc (Nat.le_refl _) _)
  have HK1 : Hid (KonAt w1) := Lib.hid (HK.out.later (by rw [hN]; exact HB1.out))
  have HBB : Hid (BytesAt w1 a xs) := Lib.hid (HB.out.later (by rw [hN]; exact HB1.out))
  have HAB : Hid (∀ ad, a = some ad → 0 < xs.length → ad.block ≠ N) := Lib.hid (fun ad e h0 => by have := HLT.out ad e h0; omega)
  have HNK : Hid (N ≠ 1) := Lib.hid (by have := HK.out.lt; omega)
  rw [hN]
  have HN := Lib.hid hN
  clear hN
  go_upto_region 3 with (first
    | (with_reducible refine (write_any N 0 [] a cap xs HCAP.out HNIL.out (by have := HL.out; simp; omega) _ HS1.out HBB.out HAB.out HK1.out HNK.out).mono ?_
       rintro e w2 ⟨rfl, h2, h3⟩
       have H2 := Lib.hid h2
       have H3 := Lib.hid h3
       clear h2 h3))
  have HK2 : Hid (KonAt w2) := Lib.hid (fun t ht => H3.out.cell (HK1.out t ht) (fun hm => HNK.out hm.1.symm))
  have HB2 : Hid (Below N w w2) := Lib.hid (HB1.out.trans (H3.out.below (by have := HS1.out.lt; omega) (fun k i hk h => by have := h.1; omega)))
  go_wp2_with (first
    | (with_reducible refine (stateSum_any N 0 xs HL.out _ H2.out HK2.out).mono ?_
       rintro e w3 ⟨bs, rfl, h4, h5⟩
       have H4 := Lib.hid h4
       have H5 := Lib.hid h5
       clear h4 h5))
  go_ret
  exact ⟨bs, rfl, H4.out, by rw [HN.out]; exact HB2.out.trans (H5.out.mono (by have := H2.out.lt; omega))⟩
end Go.Proofs.YtmcbnhkcjhlbaaaGreatDoor
end
section
namespace Go.Proofs.YtmcbnhkcjhlbaaaGreatDoor
open Go.RowKit
open Kit (Chg)

def nb (s : ByteArray) : List Nat := s.data.toList.map UInt8.toNat
theorem nb_length (s : ByteArray) : (nb s).length = s.size := by unfold nb; rw [List.length_map, Array.length_toList]; rfl
theorem nb_lt (s : ByteArray) : ∀ x ∈ nb s, x < 256 := by
  intro x hx
  obtain ⟨u, _, rfl⟩ := List.mem_map.1 hx
  exact u.toNat_lt
theorem bytesWorld_bytes (w : World) (s : ByteArray) (h : s.size ≤ maxLen) : BytesAt (Go.Lib.bytesWorld w 5 s) (some ⟨w.heap.size, 0, none⟩) (nb s) := by
  refine ⟨.inr ⟨w.heap.size, 0, rfl, fun i hi => ?_⟩, nb_lt s, by rw [nb_length]; exact h⟩
  rw [nb_length] at hi
  rw [Nat.zero_add, Go.Lib.bytesWorld_cell w 5 s i hi]
  have h2 : i < s.data.toList.length := by rw [Array.length_toList]; exact hi
  have h3 : i < s.data.size := hi
  simp only [nb, List.getD_eq_getElem?_getD, List.getElem?_map, Array.getElem?_toList, Array.getElem?_eq_getElem h3]
  rfl
theorem bytesWorld_below (w : World) (s : ByteArray) : Below w.heap.size w (Go.Lib.bytesWorld w 5 s) := by
  refine ⟨?_, ?_, ?_, ?_, fun k hk => Go.Lib.bytesWorld_at_old w 5 s k hk⟩
  · unfold Go.Lib.bytesWorld World.freeze; split <;> rfl
  · unfold Go.Lib.bytesWorld World.freeze; split <;> rfl
  · unfold Go.Lib.bytesWorld World.freeze; split <;> rfl
  · rw [Go.Lib.bytesWorld_size]; exact Nat.le_succ _
end Go.Proofs.YtmcbnhkcjhlbaaaGreatDoor
end
section
namespace Go.Proofs.YtmcbnhkcjhlbaaaGreatDoor
open Go.RowKit
open Kit (Chg)
open Sha (v)

def StrsAt (w : World) (a : Option Addr) (ss : List ByteArray) : Prop :=
  ss = [] ∨ ∃ b o, a = some ⟨b, o, none⟩ ∧ ∀ i, i < ss.length → w.cell? ⟨b, o + i, none⟩ = some (.string (ss.getD i ByteArray.empty))
theorem StrsAt.later {w w' : World} {a : Option Addr} {ss : List ByteArray} (h : StrsAt w a ss) (hb : Below w.heap.size w w') : StrsAt w' a ss := by
  rcases h with h | ⟨b, o, e, h⟩
  · exact .inl h
  · exact .inr ⟨b, o, e, fun i hi => (hb.cell (p := ⟨b, o + i, none⟩) (World.block_lt_of_cell? w _ (h i hi))).trans (h i hi)⟩
def catB (ss : List ByteArray) : List Nat := ss.flatMap nb
theorem catB_take (ss : List ByteArray) (k : Nat) (h : k < ss.length) : catB (ss.take (k + 1)) = catB (ss.take k) ++ nb (ss.getD k ByteArray.empty) := by
  rw [List.take_add_one, List.getElem?_eq_getElem h, List.getD_eq_getElem?_getD, List.getElem?_eq_getElem h]
  unfold catB
  rw [List.flatMap_append]
  simp
theorem conv_str (W : World) (s : ByteArray) : (convert 9 52 (.string s)).run Tryz.prog W = .ok (.slice (some ⟨W.heap.size, 0, none⟩) s.size (grownCap W s.size 0 5)) (Go.Lib.bytesWorld W 5 s) :=
  Go.Lib.run_convert_string_bytes W 9 52 5 s Tryz.underlying9 Tryz.underlying52 Tryz.underlying5
theorem StrsAt.keep {w w' : World} {a : Option Addr} {ss : List ByteArray} {M : Nat → Nat → Prop} (h : StrsAt w a ss) (hc : Chg M w w') (hM : ∀ ad, a = some ad → 0 < ss.length → ∀ i, ¬ M ad.block i) : StrsAt w' a ss := by
  rcases h with h | ⟨b, o, e, h⟩
  · exact .inl h
  · exact .inr ⟨b, o, e, fun i hi => hc.cell (h i hi) (hM _ e (by omega) _)⟩
set_option maxHeartbeats 1000000 in
theorem join_any (a : Option Addr) (cap : Nat) (ss : List ByteArray) (hl : (catB ss).length ≤ 100000000000) (hn : ss.length ≤ 1000000000) (w : World) (hS : StrsAt w a ss) (hK : KonAt w) (hI : InitAt w) :
    Calls Tryz.prog 159 #[.slice a ss.length cap] w fun e w' => ∃ bs : List Nat, e = .returned (.string (strB bs)) ∧ bs = Sha.sum (catB ss) ∧ Below w.heap.size w w' := by
  have HSS := Lib.hid hS
  have HK := Lib.hid hK
  have HI := Lib.hid hI
  have HL := Lib.hid hl
  have HCV := Lib.hid conv_str
  clear hS hK hI hl
  go_enter Tryz.func159, Tryz.ntmps159
  go_upto_region 2 with (first
    | (with_reducible refine (newState_any _ HI.out).mono ?_
       rintro e w1 ⟨rfl, h1⟩
       have H1 := Lib.hid h1
       clear h1))
  obtain ⟨N, hN⟩ := ex_eq w.heap.size
  have HS1 : Hid (StateAt w1 N 0 []) := Lib.hid (by rw [H1.out, ← hN]; exact state_new (heap_alloc_new _ _))
  have HB1 : Hid (Below N w w1) := Lib.hid (by rw [H1.out, ← hN]; exact (Below.refl _ _).alloc (Nat.le_refl _) _)
  have HNK : Hid (N ≠ 1) := Lib.hid (by have := HK.out.lt; omega)
  rw [hN]
  have HN := Lib.hid hN
  clear hN
  have hsz1 : N + 1 ≤ w1.heap.size := by have := HS1.out.lt; omega
  go_wp2_with fail
  go_loopw [9] (fun x wr => ∃ k : Nat, k ≤ ss.length ∧ x = .int .i64 (k : Int) ∧ Hid (StateAt wr N 0 (catB (ss.take k))) ∧ Hid (Below N w wr) ∧ N + 1 ≤ wr.heap.size) (fun x _ => ss.length - (intOf x).toNat)
  case atStart => exact ⟨0, Nat.zero_le _, rfl, HS1.out, HB1.out, hsz1⟩
  case round =>
    obtain ⟨k, hk, rfl, HST, HBE, hsz⟩ := hrel
    by_cases hlt : k < ss.length
    · obtain ⟨b, o, rfl, hcs⟩ : ∃ b o, a = some ⟨b, o, none⟩ ∧ ∀ i, i < ss.length → wr.cell? ⟨b, o + i, none⟩ = some (.string (ss.getD i ByteArray.empty)) := by
        rcases HSS.out.later (by rw [HN.out]; exact HBE.out) with h | h
        · subst h; simp at hlt
        · exact h
      have hck := hcs k hlt
      clear hcs
      have hct := catB_take ss k hlt
      obtain ⟨s, hs⟩ := ex_eq (ss.getD k ByteArray.empty)
      rw [hs] at hck hct
      have HCT := Lib.hid hct
      clear hct hs
      go_upto_region 5 with fail
      have hcat : (catB (ss.take (k + 1))).length ≤ (catB ss).length := by
        have e : catB ss = catB (ss.take (k + 1)) ++ catB (ss.drop (k + 1)) := by
          unfold catB; rw [← List.flatMap_append, List.take_append_drop]
        rw [e, List.length_append]; omega
      have hsl : (catB (ss.take k)).length + (nb s).length ≤ 100000000000 := by
        have h1 := HL.out
        rw [HCT.out, List.length_append] at hcat
        omega
      have HSL := Lib.hid hsl
      have hsm : s.size ≤ maxLen := by have := nb_length s; unfold maxLen; omega
      have hcv := HCV.out wr s
      have HBY := Lib.hid (bytesWorld_bytes wr s hsm)
      have HBW := Lib.hid (bytesWorld_below wr s)
      obtain ⟨cp, hcp⟩ := ex_eq (grownCap wr s.size 0 5)
      obtain ⟨W2, hW2⟩ := ex_eq (Go.Lib.bytesWorld wr 5 s)
      have HCPL : Hid ((nb s).length ≤ cp) := Lib.hid (by rw [nb_length, ← hcp]; exact grownCap_ge _ _ _ _)
      rw [hcp, hW2, ← nb_length] at hcv
      rw [hW2] at HBY HBW
      clear hcat hsl hsm hcp hW2
      have HST2 : Hid (StateAt W2 N 0 (catB (ss.take k))) := Lib.hid (HST.out.later HBW.out)
      have HK2 : Hid (KonAt W2) := Lib.hid ((HK.out.later (by rw [HN.out]; exact HBE.out)).later HBW.out)
      go_wp2_with (first
        | (with_reducible refine (write_any N 0 (catB (ss.take k)) (some ⟨wr.heap.size, 0, none⟩) cp (nb s) HCPL.out (fun e => by cases e) (by have := HSL.out; omega) _ HST2.out HBY.out (fun ad e _ => by cases e; show wr.heap.size ≠ N; omega) HK2.out HNK.out).mono ?_
           rintro e w3 ⟨rfl, h2, h3⟩
           have H2 := Lib.hid h2
           have H3 := Lib.hid h3
           clear h2 h3))
      go_roundw
      case rel => exact ⟨k + 1, by omega, rfl, by rw [HCT.out]; exact H2.out, HBE.out.trans ((HBW.out.mono (by omega)).trans (H3.out.below (by have := HBW.out.size; omega) (fun k i hk h => by have := h.1; omega))), by have h4 := HBW.out.size; have h5 := H3.out.size; omega⟩
      case measure => simp [intOf]; omega
    · have e : k = ss.length := by omega
      subst e
      have HST2 : Hid (StateAt wr N 0 (catB ss)) := Lib.hid (by have h := HST.out; rw [List.take_length] at h; exact h)
      have HK2 : Hid (KonAt wr) := Lib.hid (HK.out.later (by rw [HN.out]; exact HBE.out))
      go_wp2_with (first
        | (with_reducible refine (stateSum_any N 0 (catB ss) HL.out _ HST2.out HK2.out).mono ?_
           rintro e w3 ⟨bs, rfl, h4, h5⟩
           have H4 := Lib.hid h4
           have H5 := Lib.hid h5
           clear h4 h5))
      go_ret
      exact ⟨bs, rfl, H4.out, by rw [HN.out]; exact HBE.out.trans (H5.out.mono (by omega))⟩
end Go.Proofs.YtmcbnhkcjhlbaaaGreatDoor
end
section
namespace Go.Proofs.YtmcbnhkcjhlbaaaGreatDoor
open Go.RowKit
open Kit (Chg)
open Sha (v)

def xorL (ks : List Nat) (c : Nat) : List Nat := ks.map (· ^^^ c)
theorem xorL_length (ks : List Nat) (c : Nat) : (xorL ks c).length = ks.length := by simp [xorL]
theorem xor_lt {x c : Nat} (hx : x < 256) (hc : c < 256) : x ^^^ c < 256 := Nat.xor_lt_two_pow (n := 8) hx hc
theorem xorL_lt (ks : List Nat) (c : Nat) (hk : ∀ x ∈ ks, x < 256) (hc : c < 256) : ∀ x ∈ xorL ks c, x < 256 := by
  intro x hx
  obtain ⟨y, hy, rfl⟩ := List.mem_map.1 hx
  exact xor_lt (hk y hy) hc
theorem ofInt8 (x : Nat) (hx : x < 256) : (BitVec.ofInt 8 (x : Int)).toNat = x := by
  rw [BitVec.toNat_ofInt]; omega
theorem bits_xor8 (x c : Nat) (hx : x < 256) (hc : c < 256) : bits .xor .u8 (x : Int) (c : Int) = ((x ^^^ c : Nat) : Int) := by
  show IntKind.u8.wrap ((BitVec.ofInt 8 (x : Int) ^^^ BitVec.ofInt 8 (c : Int)).toNat : Int) = _
  rw [BitVec.toNat_xor, ofInt8 x hx, ofInt8 c hc]
  have := xor_lt hx hc
  rw [IntKind.wrap_u8]; omega
def padRow (ks : List Nat) (c k : Nat) : List Nat := (xorL ks c).take k ++ List.replicate (64 - k) 0
theorem padRow_length (ks : List Nat) (c k : Nat) (h : ks.length = 64) (hk : k ≤ 64) : (padRow ks c k).length = 64 := by
  simp [padRow, xorL_length, h]; omega
theorem padRow_set (ks : List Nat) (c k : Nat) (h : ks.length = 64) (hk : k < 64) : (padRow ks c k).set k (ks.getD k 0 ^^^ c) = padRow ks c (k + 1) := by
  have hx : k < (xorL ks c).length := by rw [xorL_length, h]; exact hk
  have e : (xorL ks c)[k] = ks.getD k 0 ^^^ c := by
    have : k < ks.length := by omega
    simp [xorL, List.getD_eq_getElem?_getD, this]
  unfold padRow
  rw [List.set_append_right _ _ (by rw [List.length_take]; omega), List.length_take, Nat.min_eq_left (by omega), Nat.sub_self, show 64 - k = (64 - (k + 1)) + 1 by omega, List.replicate_succ, List.set_cons_zero,
    List.take_add_one, List.getElem?_eq_getElem hx, e]
  simp
theorem run_idxB (ks : List Nat) (k : Nat) (hk : k < ks.length) (hl : ks.length = 64) (W : World) : (Instr.index 162 (.agg (bvals ks).toArray) (.int .i64 (k : Int))).run Tryz.prog W = .ok (.int .u8 ((ks.getD k 0 : Nat) : Int)) W := by
  have hu : Tryz.prog.underlying 162 = some (.array 64 5) := Tryz.underlying162
  have hk2 : (0 : Int) ≤ (k : Int) ∧ (k : Int) < (64 : Nat) := by omega
  have hs : Tryz.prog.info? 5 = Tryz.prog.info? 5 := rfl
  simp [Instr.index, run_underlying hu, asIntOf, hk2, go_sem]
  rw [if_pos (by omega)]
  simp [bvals, hk, go_sem]
theorem bvals_arr_size (ks : List Nat) (h : ks.length = 64) : (bvals ks).toArray.size = 64 := by rw [List.size_toArray, bvals_length]; exact h
theorem Tryz.size140 : (Tryz.prog.info? 162).map (·.size) = some 64 := by kernel_rfl

set_option maxRecDepth 100000 in
set_option maxHeartbeats 1000000 in
theorem padc_any (kb : Nat) (ks : List Nat) (c : Nat) (hk : ks.length = 64) (hb : ∀ x ∈ ks, x < 256) (hc : c < 256) (w : World) (hK : w.heap[kb]? = some (.cells (bvals ks).toArray 162 (0, 0))) :
    Calls Tryz.prog 160 #[.int .u8 (c : Int), .pointer (some ⟨kb, 0, none⟩)] w fun e w' => e = .returned (.agg (bvals (xorL ks c)).toArray) ∧ Below w.heap.size w w' := by
  have HK := Lib.hid hK
  have HB := Lib.hid hb
  obtain ⟨R, hR⟩ := ex_eq (bvals ks).toArray
  have HIX : Hid (∀ k, k < 64 → ∀ W, (Instr.index 162 (.agg R) (.int .i64 ((k : Nat) : Int))).run Tryz.prog W = .ok (.int .u8 ((ks.getD k 0 : Nat) : Int)) W) := Lib.hid (fun k h W => by rw [← hR]; exact run_idxB ks k (by omega) hk W)
  have HRS : Hid (R.size = 64) := Lib.hid (by rw [← hR]; exact bvals_arr_size ks hk)
  rw [hR] at hK HK
  clear hK hb hR
  go_enter Tryz.func160, Tryz.ntmps160
  go_upto_region 2 with (first
    | (with_reducible refine wpList_load_row rfl 162 (.tmp 1) rfl kb rfl 162 R (0, 0) _ (by first | exact HK.out | exact (Below.heap_alloc w _ kb (by have := (Array.getElem?_eq_some_iff.1 HK.out).1; omega)).trans HK.out) Tryz.underlying162 rfl (by rw [HRS.out]; exact Tryz.size140) ?_))
  refine wp_over (fun W => Hid (W.heap[w.heap.size]? = some (.cells (bvals (padRow ks c 0)).toArray 162 (0, 0))) ∧ Hid (Below w.heap.size w W)) ⟨?_, ?_⟩ ?_
  · exact heap_alloc_new _ _
  · exact (Below.refl _ _).alloc (Nat.le_refl _) _
  rintro V ⟨HV, HBV⟩
  obtain ⟨N, hN⟩ := ex_eq w.heap.size
  rw [hN] at HV HBV ⊢
  go_loopw [7] (fun x wr => ∃ k : Nat, k ≤ 64 ∧ x = .int .i64 (k : Int) ∧ Hid (wr.heap[N]? = some (.cells (bvals (padRow ks c k)).toArray 162 (0, 0))) ∧ Hid (Below N w wr)) (fun x _ => 64 - (intOf x).toNat)
  case atStart => exact ⟨0, by omega, rfl, HV.out, HBV.out⟩
  case round =>
    obtain ⟨k, hk64, rfl, HROW, HBE⟩ := hrel
    by_cases hlt : k < 64
    · have hidx := HIX.out k hlt
      have hx := bits_xor8 (ks.getD k 0) c (by
        rw [List.getD_eq_getElem?_getD, List.getElem?_eq_getElem (by omega)]; exact HB.out _ (List.getElem_mem _)) hc
      obtain ⟨x, hxx⟩ := ex_eq (ks.getD k 0)
      rw [hxx] at hidx hx
      have hfz : wr.frozen? ⟨N, k, none⟩ = false := frozen_of_row _ _ _ _ _ HROW.out
      have hcl : wr.cell? ⟨N, k, none⟩ = some (.int .u8 (((padRow ks c k).getD k 0 : Nat) : Int)) := by
        rw [cell_of_row _ _ _ _ _ _ HROW.out]
        have := padRow_length ks c k hk hk64
        simp [bvals, this, hlt]
      have HXX := Lib.hid hxx
      clear hxx
      go_wp2_with fail
      go_roundw
      case rel =>
        refine ⟨k + 1, by omega, by go_num, ?_, HBE.out.setCell (p := ⟨N, k, none⟩) (Nat.le_refl _) _⟩
        show _ = _
        rw [heap_setCell_same _ _ _ _ _ _ HROW.out, ← padRow_set ks c k hk hlt, HXX.out]
        simp [bvals]
      case measure => simp [intOf]; omega
    · have e : k = 64 := by omega
      subst e
      have hps : (bvals (padRow ks c 64)).toArray.size = 64 := bvals_arr_size _ (padRow_length ks c 64 hk (by omega))
      have hpe : padRow ks c 64 = xorL ks c := by
        unfold padRow
        rw [List.take_of_length_le (by rw [xorL_length]; omega)]; simp
      have hone : (bvals (padRow ks c 64)).toArray.all (·.oneCell') = true := all_one (bvals_one _)
      rw [hpe] at hps hone HROW
      obtain ⟨R2, hR2⟩ := ex_eq (bvals (xorL ks c)).toArray
      rw [hR2] at hps hone HROW
      have HPS := Lib.hid hps
      have HONE := Lib.hid hone
      have HR2 := Lib.hid hR2
      clear hps hone hpe hR2
      go_wp2_with (first
        | (with_reducible refine wpList_load_row rfl 162 (.tmp 3) rfl N rfl 162 R2 (0, 0) _ HROW.out Tryz.underlying162 rfl (by rw [HPS.out]; exact Tryz.size140) ?_)
        | (with_reducible refine wpList_store_row rfl 162 (.tmp 3) (.tmp 17) rfl N R2 rfl rfl 162 R2 HROW.out (by rw [HPS.out]; exact Tryz.size140) rfl HONE.out ?_))
      simp only [Act.put]
      refine bodyPost_ret (results_cell_row (p := 3) rfl _ _ N 162 R2 (0, 0) _ (by rfl) (setRow_heap wr N _ R2 162 (0, 0) HROW.out) Tryz.underlying162 rfl (by rw [HPS.out]; exact Tryz.size140)) rfl ⟨by rw [HR2.out], ?_⟩
      rw [hN]
      exact below_setRow HBE.out (Nat.le_refl _) _
end Go.Proofs.YtmcbnhkcjhlbaaaGreatDoor
end
