/- wire: AppendUint. -/
import Derived.Test.YtmnendoloankgaaDoorMac
namespace Go.Proofs.YtmnendoloankgaaDoor
set_option linter.unusedVariables false
set_option linter.unusedSimpArgs false
open Go.RowKit
open Kit (Chg)
open Sha (v)
open Go.Proofs.YtmnendoloankgaaDoor.One

theorem num_pow (k : Nat) : ∀ n, n < 128 ^ (k + 1) → (num n).length ≤ k + 1 := by
  induction k with
  | zero => intro n h; rw [num_small (by simpa using h)]; simp
  | succ k ih =>
    intro n h
    by_cases h1 : n < 128
    · rw [num_small h1]; simp
    · rw [num_big (by omega), List.length_cons]
      have := ih (n / 128) (by rw [Nat.div_lt_iff_lt_mul (by decide), ← Nat.pow_succ]; exact h)
      omega
theorem num_len10 {n : Nat} (h : n < 18446744073709551616) : (num n).length ≤ 10 := num_pow 9 n (by omega)
set_option maxRecDepth 100000 in
theorem or128 (n : Nat) : bits .or .u8 ((n : Int) % 256) 128 = ((n % 128 + 128 : Nat) : Int) := by
  have e : (n : Int) % 256 = ((n % 256 : Nat) : Int) := by omega
  rw [e]
  show IntKind.u8.wrap ((BitVec.ofInt 8 ((n % 256 : Nat) : Int) ||| BitVec.ofInt 8 (128 : Int)).toNat : Int) = _
  rw [BitVec.toNat_or, ofInt8 _ (by omega), show (BitVec.ofInt 8 (128 : Int)).toNat = 128 from rfl]
  have h2 : ∀ x : Fin 256, (x : Nat) ||| 128 = (x : Nat) % 128 + 128 := by decide
  have h3 := h2 ⟨n % 256, Nat.mod_lt _ (by decide)⟩
  simp only at h3
  rw [h3, IntKind.wrap_u8]
  omega
set_option maxRecDepth 100000 in
set_option maxHeartbeats 1000000 in
theorem extend_any (base : Nat) (x : Value) (bs : List Nat) (n : Nat) (hn : n < 18446744073709551616) (hl : bs.length ≤ 100000) (w : World) (hO : w.ownsRow base 5 1 x bs.length (bvals bs)) (hb : base ≤ w.heap.size) :
    Calls Tryd.prog 101 #[x, .int .u64 (n : Int)] w fun e w' => ∃ v', e = .returned v' ∧ w'.ownsRow base 5 1 v' (bs ++ num n).length (bvals (bs ++ num n)) ∧ Chg (fun q _ => base ≤ q) w w' := by
  have HO := Lib.hid hO
  have HN10 := Lib.hid (num_len10 hn)
  have HL := Lib.hid hl
  have HBB := Lib.hid hb
  obtain ⟨i0, hi, hz0, hz1, hz2⟩ := info_parts Tryd.info5
  have FI := Lib.hid hi
  have FZ0 := Lib.hid hz0
  have FZ1 := Lib.hid hz1
  have FZ2 := Lib.hid hz2
  clear hi hz0 hz1 hz2 hO hl hb
  go_enter Tryd.func101, Tryd.ntmps101
  go_wp2_with fail
  go_loopw [0, 1] (fun x y wr => ∃ (k : Nat) (cur : List Nat), y = .int .u64 (k : Int) ∧ k < 18446744073709551616 ∧ Hid (cur ++ num k = bs ++ num n) ∧ Hid (wr.ownsRow base 5 1 x cur.length (bvals cur)) ∧ Hid (Chg (fun q _ => base ≤ q) w wr)) (fun _ y _ => (intOf y).toNat)
  case atStart => exact ⟨n, bs, rfl, hn, rfl, HO.out, Chg.refl _ _⟩
  case round =>
    obtain ⟨k, cur, rfl, hk, HE, HOW, HC⟩ := hrel
    have HCL : Hid (cur.length ≤ 100010) := Lib.hid (by have := congrArg List.length HE.out; rw [List.length_append, List.length_append] at this; have := HN10.out; have := HL.out; omega)
    have HBS : Hid (base ≤ wr.heap.size) := Lib.hid (by have := HC.out.size; have := HBB.out; omega)
    by_cases h128 : 128 ≤ k
    · have hi128 : (128 : Int) ≤ (k : Int) := by omega
      have HBV : Hid (bvals cur ++ [.int .u8 (bits .or .u8 ((k : Int) % 256) 128)] = bvals (cur ++ [k % 128 + 128])) := Lib.hid (by rw [bvals_snoc, or128])
      have HNE : Hid (cur ++ [k % 128 + 128] ++ num (k / 128) = bs ++ num n) := Lib.hid (by rw [← HE.out, num_big h128]; simp)
      go_wp2_with (first
        | (at_builtin
           refine wpList_append_own _ rfl _ _ 68 rfl base 5 i0 (.int .u8 0) 1 1 Tryd.underlying68 FI.out FZ0.out FZ1.out FZ2.out rfl (by decide) _ _ _ rfl (HOW.out.alloc _) ⟨wr.heap.size, 0, none⟩ 1 1 [.int .u8 (bits .or .u8 ((k : Int) % 256) 128)] rfl rfl (cell_one_new _ _ _) (by simp [Value.oneCell']) (by have := HCL.out; unfold maxLen; omega) (by have := HCL.out; omega) (by have := HBS.out; simp; omega) ?_
           intro v' w4 hown4 hgr4 _
           have HO4 : Hid (w4.ownsRow base 5 1 v' (cur.length + 1) (bvals (cur ++ [k % 128 + 128]))) := by rw [← HBV.out]; exact hown4
           have HC4 : Hid (Chg (fun q _ => base ≤ q) wr w4) := (Chg.alloc1 wr _).trans (Chg.of_grown hgr4 (fun q _ e => (HOW.out.lt q e).1))
           clear hown4 hgr4))
      go_roundw
      case rel => exact ⟨k / 128, cur ++ [k % 128 + 128], by go_num, by omega, HNE.out, by rw [List.length_append]; exact HO4.out, HC.out.trans HC4.out⟩
      case measure => simp [intOf]; omega
    · have hi128 : ¬ (128 : Int) ≤ (k : Int) := by omega
      have HBV : Hid (bvals cur ++ [.int .u8 (k : Int)] = bvals (cur ++ [k])) := Lib.hid (by rw [bvals_snoc])
      have HNE : Hid (cur ++ [k] = bs ++ num n) := Lib.hid (by rw [← HE.out, num_small (by omega)])
      go_wp2_with (first
        | (at_builtin
           refine wpList_append_own _ rfl _ _ 68 rfl base 5 i0 (.int .u8 0) 1 1 Tryd.underlying68 FI.out FZ0.out FZ1.out FZ2.out rfl (by decide) _ _ _ rfl (HOW.out.alloc _) ⟨wr.heap.size, 0, none⟩ 1 1 [.int .u8 (k : Int)] rfl rfl (cell_one_new _ _ _) (by simp [Value.oneCell']) (by have := HCL.out; unfold maxLen; omega) (by have := HCL.out; omega) (by have := HBS.out; simp; omega) ?_
           intro v' w4 hown4 hgr4 _
           have HO4 : Hid (w4.ownsRow base 5 1 v' (cur.length + 1) (bvals (cur ++ [k]))) := by rw [← HBV.out]; exact hown4
           have HC4 : Hid (Chg (fun q _ => base ≤ q) wr w4) := (Chg.alloc1 wr _).trans (Chg.of_grown hgr4 (fun q _ e => (HOW.out.lt q e).1))
           clear hown4 hgr4))
      go_ret
      refine ⟨_, rfl, ?_, HC.out.trans HC4.out⟩
      have h := HO4.out
      have e : cur.length + 1 = (bs ++ num n).length := by rw [← HNE.out]; simp
      rw [e, HNE.out, List.length_append] at h
      exact h
set_option maxRecDepth 100000 in
set_option maxHeartbeats 1000000 in
theorem appUint_any (a : Option Addr) (cap : Nat) (xs : List Nat) (hnil : a = none → cap = 0) (n : Nat) (hn : n < 18446744073709551616) (hl : xs.length ≤ 10000) (w : World) (hB : BytesAt w a xs) :
    Calls Tryd.prog 74 #[.slice a xs.length cap, .int .u64 (n : Int)] w fun e w' => ∃ v' c, e = .returned v' ∧ c = (xs ++ num n).length ∧ w'.ownsRow w.heap.size 5 1 v' c (bvals (xs ++ num n)) ∧ Below w.heap.size w w' := by
  have HB := Lib.hid hB
  have HL := Lib.hid hl
  have HNIL := Lib.hid hnil
  obtain ⟨i0, hi, hz0, hz1, hz2⟩ := info_parts Tryd.info5
  have FI := Lib.hid hi
  have FZ0 := Lib.hid hz0
  have FZ1 := Lib.hid hz1
  have FZ2 := Lib.hid hz2
  clear hi hz0 hz1 hz2 hB hnil
  go_enter Tryd.func74, Tryd.ntmps74
  go_wp2_with (first
    | (at_make
       refine wpList_make_own _ rfl (.const (.int .i64 0)) (.tmp 7) 68 rfl w.heap.size 5 i0 (.int .u8 0) 1 Tryd.underlying68 FI.out FZ0.out FZ1.out .i64 .i64 ((xs.length : Int) + 10) (xs.length + 10) (by rfl) (by rfl) (by omega) (by rw [FZ2.out]; have := HL.out; omega) (by have := HL.out; unfold maxLen; omega) (Nat.le_refl _) ?_
       intro w1 hown1 hgr1
       have HO1 := Lib.hid hown1
       have HB1 : Hid (Below w.heap.size w w1) := Lib.hid ((Chg.of_grown (M := fun _ _ => False) hgr1 (fun q _ e => by cases e)).below (Nat.le_refl _) (fun _ _ _ h => h))
       have HBY1 := Lib.hid (HB.out.later HB1.out)
       clear hown1 hgr1)
    | (at_builtin
       refine wpList_append_src rfl (.tmp 8) (.tmp 9) 68 rfl w.heap.size 5 i0 (.int .u8 0) 1 1 Tryd.underlying68 FI.out FZ0.out FZ1.out FZ2.out rfl (by decide) _ _ _ (by rfl) HO1.out a xs.length cap (bvals xs) (by rfl) (HBY1.out.src cap HNIL.out) (bvals_one _) (by have := HL.out; unfold maxLen; omega) (by have := HL.out; omega) (by have := HB1.out.size; omega) ?_
       intro v2 w2 hown2 hgr2
       have HO2 : Hid (w2.ownsRow w.heap.size 5 1 v2 xs.length (bvals xs)) := by have h := hown2; rw [Nat.zero_add, List.nil_append] at h; exact h
       have HC2 : Hid (Chg (fun q _ => w.heap.size ≤ q) w1 w2) := Chg.of_grown hgr2 (fun q _ e => (HO1.out.lt q e).1)
       have HB2 : Hid (Below w.heap.size w w2) := Lib.hid (HB1.out.trans (HC2.out.below HB1.out.size (fun q i hq h => by omega)))
       clear hown2 hgr2)
    | (with_reducible refine (extend_any w.heap.size v2 xs n hn (by have := HL.out; omega) w2 HO2.out HB2.out.size).mono ?_
       rintro e w3 ⟨v3, rfl, h3, h4⟩
       obtain ⟨c, hc⟩ := ex_eq (xs ++ num n).length
       rw [hc] at h3
       have HC := Lib.hid hc
       have H3 := Lib.hid h3
       have H4 := Lib.hid h4
       clear h3 h4 hc))
  go_ret
  exact ⟨_, c, rfl, HC.out.symm, H3.out, HB2.out.trans (H4.out.below HB2.out.size (fun q i hq h => by omega))⟩
end Go.Proofs.YtmnendoloankgaaDoor
