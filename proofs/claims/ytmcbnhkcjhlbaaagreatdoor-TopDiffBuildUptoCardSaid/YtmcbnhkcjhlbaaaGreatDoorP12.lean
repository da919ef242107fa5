/- Texts Tpc, Gsp, Mrk, Qpl, Wrt, Gva, Mkt, Mku, Sgc, Smd, Gen, Tpl, Gst, Plh, Lpl, Gcl, Qsg, Gcg, Gap, Gmt of the proof, each as a section; no premises beyond those that each theorem states. -/
import Derived.Shelf.Small.Bits
import Derived.Shelf.Strings.OnBuilder
import Derived.Great.BuildSlice
import Derived.ArgAppend
import Derived.Laws.ResultCell
import Derived.Laws.MakeOwn
import Derived.Maps.AppendAt
import Derived.Deep.OwnRows
import Derived.Test.YtmcbnhkcjhlbaaaGreatDoorP04
import Derived.Test.YtmcbnhkcjhlbaaaGreatDoorP05
import Derived.Test.YtmcbnhkcjhlbaaaGreatDoorP11
set_option linter.unusedVariables false
set_option linter.unusedSimpArgs false
section
namespace Go.Proofs.YtmcbnhkcjhlbaaaGreatDoor.Tp
open Go.RowKit
open Kit (Chg)
open Go.Proofs.YtmcbnhkcjhlbaaaGreatDoor.One

def rkI (c : Int) : Int := if c = 47 then -1 else c
theorem rk_rkI (c : UInt8) : rk c = rkI (c.toNat : Int) := by
  unfold rk rkI
  by_cases h : c = 47
  · subst h; rfl
  · have h2 : ¬ (c.toNat : Int) = 47 := fun e => h (UInt8.toNat_inj.1 (show c.toNat = 47 by omega))
    rw [if_neg h, if_neg h2]
theorem rkI_inj {a b : UInt8} (h : rkI (a.toNat : Int) = rkI (b.toNat : Int)) : a = b := rk_inj (by rw [rk_rkI, rk_rkI, h])
theorem refRank_any (c : Int) (h0 : 0 ≤ c) (h1 : c < 256) (w : World) : Calls Tryz.prog 54 #[.int .u8 c] w fun e w' => e = .returned (.int .i64 (rkI c)) ∧ w' = w := by
  unfold rkI
  by_cases h : c = 47
  · rw [if_pos h]
    subst h
    go_enter Tryz.func54, Tryz.ntmps54
    go_wp2
    go_ret
    exact ⟨rfl, rfl⟩
  · rw [if_neg h]
    have hq : (c == 47) = false := by rw [beq_eq_false_iff_ne]; exact h
    go_enter Tryz.func54, Tryz.ntmps54
    go_wp2
    go_ret
    exact ⟨rfl, rfl⟩
theorem rank_any (c : Int) (h0 : 0 ≤ c) (h1 : c < 256) (w : World) : Calls Tryz.prog 95 #[.int .u8 c] w fun e w' => e = .returned (.int .i64 (rkI c)) ∧ w' = w := by
  unfold rkI
  by_cases h : c = 47
  · rw [if_pos h]
    subst h
    go_enter Tryz.func95, Tryz.ntmps95
    go_wp2
    go_ret
    exact ⟨rfl, rfl⟩
  · rw [if_neg h]
    have hq : (c == 47) = false := by rw [beq_eq_false_iff_ne]; exact h
    go_enter Tryz.func95, Tryz.ntmps95
    go_wp2
    go_ret
    exact ⟨rfl, rfl⟩
theorem cmpP_at (a b : ByteArray) (k : Nat) (ha : k < a.size) (hb : k < b.size) : cmpP (a.data.toList.drop k) (b.data.toList.drop k) = if a[k] = b[k] then cmpP (a.data.toList.drop (k + 1)) (b.data.toList.drop (k + 1)) else if rkI (a[k].toNat : Int) < rkI (b[k].toNat : Int) then -1 else 1 := by
  rw [List.drop_eq_getElem_cons (show k < a.data.toList.length by rw [bytes_len]; exact ha), List.drop_eq_getElem_cons (show k < b.data.toList.length by rw [bytes_len]; exact hb), cmpP, rk_rkI, rk_rkI]
  rfl
theorem cmpP_end (a b : ByteArray) (k : Nat) (h : ¬ (k < a.size ∧ k < b.size)) (ha : k ≤ a.size) (hb : k ≤ b.size) : cmpP (a.data.toList.drop k) (b.data.toList.drop k) = Lib.compareInt (a.size : Int) (b.size : Int) := by
  unfold Lib.compareInt
  by_cases h1 : k < a.size
  · have h2 : k = b.size := by omega
    rw [List.drop_of_length_le (l := b.data.toList) (by rw [bytes_len]; omega), List.drop_eq_getElem_cons (show k < a.data.toList.length by rw [bytes_len]; exact h1), cmpP, if_neg (by omega), if_pos (by omega)]
  · have h2 : k = a.size := by omega
    rw [List.drop_of_length_le (l := a.data.toList) (by rw [bytes_len]; omega)]
    by_cases h3 : k < b.size
    · rw [List.drop_eq_getElem_cons (show k < b.data.toList.length by rw [bytes_len]; exact h3), cmpP, if_pos (by omega)]
    · rw [List.drop_of_length_le (l := b.data.toList) (by rw [bytes_len]; omega), cmpP, if_neg (by omega), if_neg (by omega)]
set_option maxRecDepth 100000 in
set_option maxHeartbeats 2000000 in
theorem refCompare_any (a b : ByteArray) (ha : a.size ≤ 4000000) (hb : b.size ≤ 4000000) (w : World) : Calls Tryz.prog 23 #[.string a, .string b] w fun e w' => e = .returned (.int .i64 (cmpP a.data.toList b.data.toList)) ∧ Below w.heap.size w w' := by
  obtain ⟨R, hR⟩ : ∃ R, cmpP a.data.toList b.data.toList = R := ⟨_, rfl⟩
  have HR := Lib.hid hR
  rw [hR]
  clear hR
  go_enter Tryz.func23, Tryz.ntmps23
  go_wp2
  go_loopw [5] (fun i wr => ∃ k : Nat, k ≤ a.size ∧ k ≤ b.size ∧ i = .int .i64 k ∧ Below w.heap.size w wr ∧ cmpP (a.data.toList.drop k) (b.data.toList.drop k) = R) (fun i _ => a.size - (intOf i).toNat)
  case atStart => exact ⟨0, Nat.zero_le _, Nat.zero_le _, rfl, Below.refl _ _, by rw [List.drop_zero, List.drop_zero]; exact HR.out⟩
  case round =>
    obtain ⟨k, hka, hkb, rfl, hbw, hc⟩ := hrel
    have HB := Lib.hid hbw
    have HC := Lib.hid hc
    clear hbw hc
    by_cases hlt : k < a.size ∧ k < b.size
    · obtain ⟨h1, h2⟩ := hlt
      have hz1 : (k : Int) < (a.size : Int) := by omega
      have hz2 : (k : Int) < (b.size : Int) := by omega
      have HAT := Lib.hid (cmpP_at a b k h1 h2)
      have x0 := a[k].toNat_lt
      have y0 := b[k].toNat_lt
      obtain ⟨x, hx⟩ : ∃ x : Int, rkI (a[k].toNat : Int) = x := ⟨_, rfl⟩
      obtain ⟨y, hy⟩ : ∃ y : Int, rkI (b[k].toNat : Int) = y := ⟨_, rfl⟩
      have C1 : Hid (∀ W, Calls Tryz.prog 54 #[.int .u8 (a[k].toNat : Int)] W fun e w' => e = .returned (.int .i64 x) ∧ w' = W) := Lib.hid (fun W => by rw [← hx]; exact refRank_any _ (by omega) (by omega) W)
      have C2 : Hid (∀ W, Calls Tryz.prog 54 #[.int .u8 (b[k].toNat : Int)] W fun e w' => e = .returned (.int .i64 y) ∧ w' = W) := Lib.hid (fun W => by rw [← hy]; exact refRank_any _ (by omega) (by omega) W)
      have HXY : Hid (cmpP (a.data.toList.drop (k + 1)) (b.data.toList.drop (k + 1)) = R ∨ x < y ∨ y < x) := Lib.hid (by
        by_cases e : x = y
        · refine .inl ?_
          have e2 : a[k] = b[k] := rkI_inj (by rw [hx, hy, e])
          have := HAT.out
          rw [HC.out, if_pos e2] at this
          exact this.symm
        · omega)
      have HLT : Hid (x < y → R = -1) := Lib.hid (fun h => by
        have := HAT.out
        rw [HC.out, if_neg (fun e => by rw [e] at hx; omega), hx, hy, if_pos h] at this
        exact this)
      have HGT : Hid (y < x → R = 1) := Lib.hid (fun h => by
        have := HAT.out
        rw [HC.out, if_neg (fun e => by rw [e] at hx; omega), hx, hy, if_neg (by omega)] at this
        exact this)
      clear hx hy x0 y0
      by_cases c1 : x < y
      · have d1 : decide (x < y) = true := decide_eq_true c1
        have HF := Lib.hid (HLT.out c1)
        go_wp2
        go_quiet ((go_at_call 54; (first | (with_reducible exact Calls.quiet_of_same (C1.out _)) | (with_reducible exact Calls.quiet_of_same (C2.out _)))))
        go_wp2
        go_ret
        exact ⟨by rw [HF.out]; rfl, below_drewNv HB.out _⟩
      · have d1 : decide (x < y) = false := decide_eq_false c1
        by_cases c2 : y < x
        · have d2 : decide (y < x) = true := decide_eq_true c2
          have HF := Lib.hid (HGT.out c2)
          go_wp2
          go_quiet ((go_at_call 54; (first | (with_reducible exact Calls.quiet_of_same (C1.out _)) | (with_reducible exact Calls.quiet_of_same (C2.out _)))))
          go_wp2
          refine wp_over (fun W => Hid (Below w.heap.size w W)) (Lib.hid (below_drewNv HB.out _)) ?_
          rintro W2 HB2
          go_quiet ((go_at_call 54; (first | (with_reducible exact Calls.quiet_of_same (C1.out _)) | (with_reducible exact Calls.quiet_of_same (C2.out _)))))
          go_wp2
          go_ret
          exact ⟨by rw [HF.out]; rfl, below_drewNv HB2.out _⟩
        · have d2 : decide (y < x) = false := decide_eq_false c2
          have HF : Hid (cmpP (a.data.toList.drop (k + 1)) (b.data.toList.drop (k + 1)) = R) := Lib.hid (by
            rcases HXY.out with h | h | h
            · exact h
            · exact absurd h c1
            · exact absurd h c2)
          go_wp2
          go_quiet ((go_at_call 54; (first | (with_reducible exact Calls.quiet_of_same (C1.out _)) | (with_reducible exact Calls.quiet_of_same (C2.out _)))))
          go_wp2
          refine wp_over (fun W => Hid (Below w.heap.size w W)) (Lib.hid (below_drewNv HB.out _)) ?_
          rintro W2 HB2
          go_quiet ((go_at_call 54; (first | (with_reducible exact Calls.quiet_of_same (C1.out _)) | (with_reducible exact Calls.quiet_of_same (C2.out _)))))
          go_wp2
          go_roundw
          case rel => exact ⟨k + 1, h1, h2, by go_num, below_drewNv HB2.out _, HF.out⟩
          case measure => simp [intOf]; omega
    · have HE := Lib.hid ((cmpP_end a b k hlt hka hkb).symm.trans HC.out)
      by_cases e1 : k < a.size
      · have hz1 : (k : Int) < (a.size : Int) := by omega
        have hz2 : ¬ (k : Int) < (b.size : Int) := by omega
        have hz3 : ¬ (a.size : Int) < (b.size : Int) := by omega
        have hz4 : (b.size : Int) < (a.size : Int) := by omega
        have HF : Hid (R = 1) := Lib.hid (by have := HE.out; unfold Lib.compareInt at this; rw [if_neg hz3, if_pos hz4] at this; exact this.symm)
        go_wp2
        go_ret
        exact ⟨by rw [HF.out]; rfl, HB.out⟩
      · have hz1 : ¬ (k : Int) < (a.size : Int) := by omega
        by_cases e2 : a.size < b.size
        · have hz3 : (a.size : Int) < (b.size : Int) := by omega
          have HF : Hid (R = -1) := Lib.hid (by have := HE.out; unfold Lib.compareInt at this; rw [if_pos hz3] at this; exact this.symm)
          go_wp2
          go_ret
          exact ⟨by rw [HF.out]; rfl, HB.out⟩
        · have hz3 : ¬ (a.size : Int) < (b.size : Int) := by omega
          have hz4 : ¬ (b.size : Int) < (a.size : Int) := by omega
          have HF : Hid (R = 0) := Lib.hid (by have := HE.out; unfold Lib.compareInt at this; rw [if_neg hz3, if_neg hz4] at this; exact this.symm)
          go_wp2
          go_ret
          exact ⟨by rw [HF.out]; rfl, HB.out⟩
theorem cmp_of (x y : Int) : Lib.compareInt x y = if x < y then -1 else if y < x then 1 else 0 := rfl
set_option maxRecDepth 100000 in
set_option maxHeartbeats 2000000 in
theorem compare_any (a b : ByteArray) (ha : a.size ≤ 4000000) (hb : b.size ≤ 4000000) (w : World) : Calls Tryz.prog 52 #[.string a, .string b] w fun e w' => e = .returned (.int .i64 (cmpP a.data.toList b.data.toList)) ∧ Drawn w w' := by
  obtain ⟨R, hR⟩ : ∃ R, cmpP a.data.toList b.data.toList = R := ⟨_, rfl⟩
  have HR := Lib.hid hR
  rw [hR]
  clear hR
  obtain ⟨m, hm⟩ : ∃ m, min a.size b.size = m := ⟨_, rfl⟩
  have hmz : min (a.size : Int) (b.size : Int) = (m : Int) := by omega
  have HM : Hid (m ≤ a.size ∧ m ≤ b.size ∧ (m = a.size ∨ m = b.size)) := Lib.hid (by omega)
  clear hm
  go_enter Tryz.func52, Tryz.ntmps52
  go_wp2
  go_loopw [12] (fun i wr => ∃ k : Nat, k ≤ m ∧ i = .int .i64 k ∧ Drawn w wr ∧ cmpP (a.data.toList.drop k) (b.data.toList.drop k) = R) (fun i _ => m - (intOf i).toNat)
  case atStart => exact ⟨0, Nat.zero_le _, rfl, Drawn.refl _, by rw [List.drop_zero, List.drop_zero]; exact HR.out⟩
  case round =>
    obtain ⟨k, hk, rfl, hbw, hc⟩ := hrel
    have HB := Lib.hid hbw
    have HC := Lib.hid hc
    clear hbw hc
    have hm1 := HM.out.1
    have hm2 := HM.out.2.1
    by_cases hlt : k < m
    · have h1 : k < a.size := by omega
      have h2 : k < b.size := by omega
      have hz1 : (k : Int) < (a.size : Int) := by omega
      have hz2 : (k : Int) < (b.size : Int) := by omega
      have HAT := Lib.hid (cmpP_at a b k h1 h2)
      by_cases he : a[k] = b[k]
      · have hq : ((a[k].toNat : Int) != (b[k].toNat : Int)) = false := by rw [he]; simp
        have HF : Hid (cmpP (a.data.toList.drop (k + 1)) (b.data.toList.drop (k + 1)) = R) := Lib.hid (by have := HAT.out; rw [HC.out, if_pos he] at this; exact this.symm)
        clear he
        go_wp2
        go_quiet (fail)
        go_wp2
        go_roundw
        case rel => exact ⟨k + 1, by omega, by go_num, HB.out.drewN _, HF.out⟩
        case measure => simp [intOf]; omega
      · have hq : ((a[k].toNat : Int) != (b[k].toNat : Int)) = true := by
          rw [bne_iff_ne]
          intro e
          exact he (UInt8.toNat_inj.1 (by omega))
        have x0 := a[k].toNat_lt
        have y0 := b[k].toNat_lt
        obtain ⟨x, hx⟩ : ∃ x : Int, rkI (a[k].toNat : Int) = x := ⟨_, rfl⟩
        obtain ⟨y, hy⟩ : ∃ y : Int, rkI (b[k].toNat : Int) = y := ⟨_, rfl⟩
        have C1 : Hid (∀ W, Calls Tryz.prog 95 #[.int .u8 (a[k].toNat : Int)] W fun e w' => e = .returned (.int .i64 x) ∧ w' = W) := Lib.hid (fun W => by rw [← hx]; exact rank_any _ (by omega) (by omega) W)
        have C2 : Hid (∀ W, Calls Tryz.prog 95 #[.int .u8 (b[k].toNat : Int)] W fun e w' => e = .returned (.int .i64 y) ∧ w' = W) := Lib.hid (fun W => by rw [← hy]; exact rank_any _ (by omega) (by omega) W)
        have HF : Hid (Lib.compareInt x y = R) := Lib.hid (by
          have := HAT.out
          rw [HC.out, if_neg he, hx, hy] at this
          rw [this, cmp_of]
          by_cases h : x < y
          · rw [if_pos h, if_pos h]
          · have : x ≠ y := fun e => he (rkI_inj (by rw [hx, hy, e]))
            rw [if_neg h, if_neg h, if_pos (by omega)])
        have C3 : Hid (∀ W, Calls Tryz.prog 96 #[.int .i64 x, .int .i64 y] W fun e w' => e = .returned (.int .i64 R) ∧ w' = W) := Lib.hid (fun W => by rw [← HF.out]; exact cmp_Compare_int x y W)
        clear hx hy x0 y0 he
        go_wp2
        go_quiet (fail)
        go_wp2
        refine wp_over (fun W => Hid (Drawn w W)) (Lib.hid (HB.out.drewN _)) ?_
        rintro W2 HB2
        go_quiet ((first | (go_at_call 95; (first | (with_reducible exact Calls.quiet_of_same (C1.out _)) | (with_reducible exact Calls.quiet_of_same (C2.out _)))) | (go_at_call 96; exact Calls.quiet_of_same (C3.out _))))
        go_wp2
        go_ret
        exact ⟨rfl, HB2.out.drewN _⟩
    · have hk2 : k = m := by omega
      have HF : Hid (Lib.compareInt (a.size : Int) (b.size : Int) = R) := Lib.hid ((cmpP_end a b k (by have := HM.out; omega) (by omega) (by omega)).symm.trans HC.out)
      have C3 : Hid (∀ W, Calls Tryz.prog 96 #[.int .i64 (a.size : Int), .int .i64 (b.size : Int)] W fun e w' => e = .returned (.int .i64 R) ∧ w' = W) := Lib.hid (fun W => by rw [← HF.out]; exact cmp_Compare_int _ _ W)
      clear hk2
      go_wp2_with (go_at_call 96; (with_reducible refine (C3.out _).mono ?_); rintro e w1 ⟨rfl, rfl⟩)
      go_ret
      exact ⟨rfl, HB.out⟩
end Go.Proofs.YtmcbnhkcjhlbaaaGreatDoor.Tp
end
section
namespace Go.Proofs.YtmcbnhkcjhlbaaaGreatDoor
open Go.Proofs.YtmcbnhkcjhlbaaaGreatDoor.One

structure Ent where
  dev : Int
  seq : Int
  kind : Int
  day : Int
  body : List Nat
  prev : ByteArray
theorem Ent.ext' {a b : Ent} (h1 : a.dev = b.dev) (h2 : a.seq = b.seq) (h3 : a.kind = b.kind) (h4 : a.day = b.day) (h5 : a.body = b.body) (h6 : a.prev = b.prev) : a = b := by
  cases a; cases b; simp_all
def lastOf (es : List Ent) (d : Int) : Option Ent := es.reverse.find? fun p => decide (p.dev = d)
theorem lastOf_nil (d : Int) : lastOf [] d = none := rfl
end Go.Proofs.YtmcbnhkcjhlbaaaGreatDoor
end
section
namespace Go.Proofs.YtmcbnhkcjhlbaaaGreatDoor
namespace Mrk
open Go.Proofs.YtmcbnhkcjhlbaaaGreatDoor.One
def node (l r : List Nat) : List Nat := Sha.sum (1 :: (l ++ r))
def root : Nat → List (List Nat) → List Nat
  | 0, l => l.getD 0 []
  | h + 1, l => node (root h (l.take (2 ^ h))) (root h (l.drop (2 ^ h)))
def path : Nat → Nat → List (List Nat) → List (List Nat)
  | 0, _, _ => []
  | h + 1, i, l => if i < 2 ^ h then path h i (l.take (2 ^ h)) ++ [root h (l.drop (2 ^ h))] else path h (i - 2 ^ h) (l.drop (2 ^ h)) ++ [root h (l.take (2 ^ h))]
theorem getD_take (l : List (List Nat)) (i n : Nat) (h : i < n) : (l.take n).getD i [] = l.getD i [] := by
  rw [List.getD_eq_getElem?_getD, List.getD_eq_getElem?_getD, List.getElem?_take_of_lt h]
def level (k : Nat) (l : List (List Nat)) : List (List Nat) := (List.range (l.length / 2 ^ k)).map fun j => root k ((l.drop (j * 2 ^ k)).take (2 ^ k))
end Mrk
end Go.Proofs.YtmcbnhkcjhlbaaaGreatDoor
end
section
namespace Go.Proofs.YtmcbnhkcjhlbaaaGreatDoor
open Go.Proofs.YtmcbnhkcjhlbaaaGreatDoor.One

structure Rc where
  hol : Int
  vlt : Int
  str : ByteArray
  ix : Int
  sz : Int
  day : Int
  ser : Int
  cnt : Int
  pl : Int
  root : ByteArray
  path : List ByteArray
  si : Int
  parts : List ByteArray
  sp : List ByteArray
def encS (r : Rc) : List Nat := num r.hol.toNat ++ num r.vlt.toNat ++ nb r.str ++ headN [r.ix.toNat, r.sz.toNat, r.day.toNat, r.ser.toNat]
where headN (q : List Nat) : List Nat := q.flatMap num
def encL (l : List ByteArray) : List Nat := num l.length ++ l.flatMap nb
def encR (r : Rc) : List Nat := encS r ++ num r.cnt.toNat ++ num r.pl.toNat ++ encL r.path ++ nb r.root ++ num r.si.toNat ++ encL r.parts ++ encL r.sp
end Go.Proofs.YtmcbnhkcjhlbaaaGreatDoor
end
section
namespace Go.Proofs.YtmcbnhkcjhlbaaaGreatDoor
open Go.RowKit
open Kit (Chg)
open Sha (v)
open Go.Proofs.YtmcbnhkcjhlbaaaGreatDoor.One

section
variable {a : Act} {ops : Array Oper} {o : Oper} {rest : List Oper} {Q : Exit → Act → World → Prop}
end
def WrAt (w : World) (g B : Nat) (bs : List Nat) : Prop := g < B ∧ B ≤ w.heap.size ∧ ∃ v L, bs.length = L ∧ w.heap[g]? = some (.cells #[v, .int .i64 0] 276 (0, 0)) ∧ w.ownsRow B 5 1 v L (bvals bs) ∧ (∀ x ∈ bs, x < 256)
theorem WrAt.later {w w' : World} {g B : Nat} {bs : List Nat} (h : WrAt w g B bs) (hb : Below w.heap.size w w') : WrAt w' g B bs := by
  obtain ⟨h5, h6, v, L, h1, h2, h3, h4⟩ := h
  refine ⟨h5, Nat.le_trans h6 hb.size, v, L, h1, (hb.block g (Array.getElem?_eq_some_iff.1 h2).1).trans h2, ?_, h4⟩
  exact ownsRow_keepM h3 (Chg.of_below hb : Chg (fun _ _ => False) w w') (fun q hq i e => e)
theorem WrAt.start {w : World} {g B : Nat} (h : w.heap[g]? = some (.cells #[.slice none 0 0, .int .i64 0] 276 (0, 0))) (hg : g < B) (hB : B ≤ w.heap.size) : WrAt w g B [] := ⟨hg, hB, .slice none 0 0, 0, rfl, h, ⟨rfl, .inl ⟨rfl, rfl⟩⟩, by simp⟩
theorem WrAt.put {w : World} {g B : Nat} {v0 v : Value} {L : Nat} {bs : List Nat} (h5 : g < B) (h6 : B ≤ w.heap.size) (hg : w.heap[g]? = some (.cells #[v0, .int .i64 0] 276 (0, 0))) (ho : w.ownsRow B 5 1 v L (bvals bs)) (hl : bs.length = L) (hb : ∀ x ∈ bs, x < 256) : WrAt (w.setCell ⟨g, 0, none⟩ v) g B bs :=
  ⟨h5, by simpa [World.setCell] using h6, v, L, hl, heap_setCell_same w g 0 _ _ _ hg, ownsRow_keepM ho (Chg.setCell1 (M := fun q _ => q = g) w g 0 v rfl) (fun q hq i e => by have := (ho.lt q hq).1; omega), hb⟩
theorem wr_cells {w : World} {g : Nat} {v : Value} (h : w.heap[g]? = some (.cells #[v, .int .i64 0] 276 (0, 0))) : w.cell? ⟨g, 0, none⟩ = some v ∧ w.cell? ⟨g, 1, none⟩ = some (.int .i64 0) ∧ ∀ i, w.frozen? ⟨g, i, none⟩ = false :=
  ⟨(cell_of_row _ _ _ _ _ _ h).trans rfl, (cell_of_row _ _ _ _ _ _ h).trans rfl, fun i => frozen_of_row _ _ _ _ _ h⟩
theorem BytesAt.blk {w : World} {a : Option Addr} {bs : List Nat} (h : BytesAt w a bs) : ∀ ad, a = Option.some ad → bs ≠ [] → ad.block < w.heap.size := by
  intro ad e hne
  rcases h.1 with h0 | ⟨b, o, e2, hc⟩
  · exact absurd h0 hne
  · rw [e] at e2
    cases e2
    exact World.block_lt_of_cell? w ⟨b, o + 0, none⟩ (hc 0 (List.length_pos_iff.2 hne))
theorem BytesAt.below {w w' : World} {a : Option Addr} {bs : List Nat} {B : Nat} (h : BytesAt w a bs) (hb : Below B w w') (hk : ∀ ad, a = Option.some ad → bs ≠ [] → ad.block < B) : BytesAt w' a bs := by
  refine ⟨?_, h.2⟩
  rcases h.1 with h0 | ⟨b, o, e, hc⟩
  · exact .inl h0
  · by_cases h0 : bs = []
    · exact .inl h0
    · exact .inr ⟨b, o, e, fun i hi => (hb.cell (p := ⟨b, o + i, none⟩) (show b < B from hk _ e h0)).trans (hc i hi)⟩
set_option maxRecDepth 100000 in
set_option maxHeartbeats 1000000 in
theorem newWriter_ok (w : World) : Calls Tryz.prog 120 #[] w fun e w' => ∃ g, e = .returned (.pointer (some ⟨g, 0, none⟩)) ∧ w'.heap[g]? = some (.cells #[.slice none 0 0, .int .i64 0] 276 (0, 0)) ∧ w.heap.size ≤ g ∧ Below w.heap.size w w' := by
  have HB : Hid (Below w.heap.size w (w.alloc (.cells #[.slice none 0 0, .int .i64 0] 276))) := Lib.hid ((Below.refl _ _).alloc (Nat.le_refl _) _)
  have HR : Hid ((w.alloc (.cells #[.slice none 0 0, .int .i64 0] 276)).heap[w.heap.size]? = some (.cells #[.slice none 0 0, .int .i64 0] 276 (0, 0))) := Lib.hid (heap_alloc_new w _)
  go_enter Tryz.func120, Tryz.ntmps120
  go_wp2
  go_ret
  exact ⟨_, rfl, HR.out, Nat.le_refl _, HB.out⟩
theorem own_empty_bytes (w : World) : (w.alloc (.cells #[] 5)).ownsRow w.heap.size 5 1 (.slice (some ⟨w.heap.size, 0, none⟩) 0 0) 0 (bvals []) := ⟨rfl, .inr ⟨w.heap.size, 0, #[], rfl, Nat.le_refl _, heap_alloc_new w _, Nat.le_refl _, by decide, rfl, rfl⟩⟩
set_option maxRecDepth 100000 in
set_option maxHeartbeats 1000000 in
theorem wrDone_ok (g B : Nat) (bs : List Nat) (hl : bs.length ≤ 1048576) (w : World) (h : WrAt w g B bs) :
    Calls Tryz.prog 125 #[.pointer (some ⟨g, 0, none⟩)] w fun e w' => ∃ a L cap, e = .returned (.tuple #[.slice a L cap, .int .i64 0]) ∧ bs.length = L ∧ L ≤ cap ∧ BytesAt w' a bs ∧ (a = none → cap = 0) ∧ (∀ ad, a = some ad → w.heap.size ≤ ad.block) ∧ Below w.heap.size w w' := by
  obtain ⟨hgB, hlt, v0, L, hL, hg, ho, hb8⟩ := h
  obtain ⟨a0, cp0, rfl, hl0, hcp0, hB0, hnil0, _⟩ := own_bytes ho hb8 (by unfold maxLen; omega)
  have HB0 := Lib.hid (hB0.later ((Below.refl w.heap.size w).alloc (Nat.le_refl _) (.cells #[] 5)))
  have HN0 := Lib.hid hnil0
  have HL := Lib.hid hL
  have HB8 := Lib.hid hb8
  have HLL : Hid (L ≤ 1048576) := Lib.hid (by omega)
  have hgt : decide (1048576 < L) = false := decide_eq_false (by omega)
  have hgt2 : ((1048576 : Int) < (L : Int)) = False := eq_false (by omega)
  have hgt3 : decide ((1048576 : Int) < (L : Int)) = false := decide_eq_false (by omega)
  have HW1 : Hid (w.heap.size ≤ (w.alloc (.cells #[] 5)).heap.size) := Lib.hid (by simp)
  have HE := Lib.hid (own_empty_bytes w)
  have HBW : Hid (Below w.heap.size w (w.alloc (.cells #[] 5))) := Lib.hid ((Below.refl _ _).alloc (Nat.le_refl _) _)
  obtain ⟨c0, c1, cf⟩ := wr_cells hg
  obtain ⟨d0, d1, df⟩ := wr_cells ((HBW.out.block g (Array.getElem?_eq_some_iff.1 hg).1).trans hg)
  clear hg ho hL hgB hlt hb8 hl hB0 hnil0 hl0 hcp0
  go_enter Tryz.func125, Tryz.ntmps125
  go_wp2_with (first
    | (at_builtin
       refine app_bytes rfl _ _ rfl w.heap.size _ 0 [] (by rfl) HE.out HW1.out (by decide) a0 L cp0 bs HL.out (by have := HLL.out; omega) (by rfl) HB0.out HN0.out ?_
       intro v3 w3 ho3 h3
       have HO3 := Lib.hid ho3
       have H3 := Lib.hid (HBW.out.trans h3)
       clear ho3 h3))
  have ho3 := HO3.out
  rw [List.nil_append, Nat.zero_add] at ho3
  obtain ⟨a3, cp3, rfl, hl3, hcp3, hB3, hnil3, hlt3⟩ := own_bytes ho3 HB8.out (by have := HL.out; have := HLL.out; unfold maxLen; omega)
  go_ret2
  exact ⟨a3, L, cp3, rfl, hl3, by omega, hB3, hnil3, fun ad e => (hlt3 ad e).1, H3.out⟩
end Go.Proofs.YtmcbnhkcjhlbaaaGreatDoor
end
section
namespace Go.Proofs.YtmcbnhkcjhlbaaaGreatDoor
open Go.RowKit
open Kit (Chg)
open Sha (v)
open Go.Proofs.YtmcbnhkcjhlbaaaGreatDoor.One

theorem row6 {w : World} {N : Nat} {x0 x1 x2 x3 x4 x5 : Value} {T : TypeId} {f : Nat × Nat} (hg : w.heap[N]? = some (.cells #[x0, x1, x2, x3, x4, x5] T f)) : w.cell? ⟨N, 0, none⟩ = some x0 ∧ w.cell? ⟨N, 1, none⟩ = some x1 ∧ w.cell? ⟨N, 2, none⟩ = some x2 ∧ w.cell? ⟨N, 3, none⟩ = some x3 ∧ w.cell? ⟨N, 4, none⟩ = some x4 ∧ w.cell? ⟨N, 5, none⟩ = some x5 :=
  ⟨(cell_of_row _ _ _ _ _ _ hg).trans rfl, (cell_of_row _ _ _ _ _ _ hg).trans rfl, (cell_of_row _ _ _ _ _ _ hg).trans rfl, (cell_of_row _ _ _ _ _ _ hg).trans rfl, (cell_of_row _ _ _ _ _ _ hg).trans rfl, (cell_of_row _ _ _ _ _ _ hg).trans rfl⟩
end Go.Proofs.YtmcbnhkcjhlbaaaGreatDoor
end
section
namespace Go.Proofs.YtmcbnhkcjhlbaaaGreatDoor
open Go.RowKit
open Kit (Chg)
open Sha (v)
open Go.Proofs.YtmcbnhkcjhlbaaaGreatDoor.One
structure RowsAt (w : World) (B : Nat) (rows : List Value) (ls : List (List ByteArray)) : Prop where
  len : rows.length = ls.length
  own : ∀ k, k < ls.length → w.ownsRow B 9 1 (rows.getD k (.slice none 0 0)) (ls.getD k []).length (strV (ls.getD k []))
  apart : ∀ i j, i < ls.length → j < ls.length → i ≠ j → ∀ b, (rows.getD i (.slice none 0 0)).ownBlock = some b → (rows.getD j (.slice none 0 0)).ownBlock ≠ some b
theorem RowsAt.keep {w w' : World} {B : Nat} {rows : List Value} {ls : List (List ByteArray)} (h : RowsAt w B rows ls) (hk : ∀ k, k < ls.length → w.ownsRow B 9 1 (rows.getD k (.slice none 0 0)) (ls.getD k []).length (strV (ls.getD k [])) → w'.ownsRow B 9 1 (rows.getD k (.slice none 0 0)) (ls.getD k []).length (strV (ls.getD k []))) : RowsAt w' B rows ls :=
  ⟨h.len, fun k hk2 => hk k hk2 (h.own k hk2), h.apart⟩
theorem getD_set_ne {α : Type} (l : List α) (k j : Nat) (x d : α) (h : k ≠ j) : (l.set k x).getD j d = l.getD j d := by
  simp [List.getD_eq_getElem?_getD, List.getElem?_set_ne h]
end Go.Proofs.YtmcbnhkcjhlbaaaGreatDoor
end
section
namespace Go.Proofs.YtmcbnhkcjhlbaaaGreatDoor
open Go.RowKit
open Kit (Chg)
open Sha (v)
open Go.Proofs.YtmcbnhkcjhlbaaaGreatDoor.One
def Mid (ls : List (List ByteArray)) (L : List (List Nat)) (x : List Nat) (k : Nat) : Prop := ∀ j, j < ls.length → (ls.getD j []).map nb = if j < k then Mrk.level j (L ++ [x]) else Mrk.level j L
section
variable {ops : Array Oper} {rest : List Oper} {o : Oper} {a : Act} {Q : Exit → Act → World → Prop} {K : Act → World → Prop}
end
end Go.Proofs.YtmcbnhkcjhlbaaaGreatDoor
end
section
namespace Go.Proofs.YtmcbnhkcjhlbaaaGreatDoor
open Go.RowKit
open Kit (Chg)
open Sha (v)
open Go.Proofs.YtmcbnhkcjhlbaaaGreatDoor.One

theorem results_cell_row_tmp {P : Program} {fn : Func} {p u : Tmp} {ty : TypeId} (h : fn.results = #[.cell p ty, .tmp u]) (tmps : Array Value) (w : World) (g : Nat) (t : TypeId) (cs : Array Value) (fr : Nat × Nat) (d : TypeDesc)
    (hp : tmps.getD p undef = .pointer (some ⟨g, 0, none⟩)) (hg : w.heap[g]? = some (.cells cs t fr))
    (hu : P.underlying ty = some d) (hd : (match d with | .struct _ | .array _ _ => true | _ => false) = true) (hi : (P.info? ty).map (·.size) = some cs.size) :
    (results fn tmps).run P w = .ok (.tuple #[.agg cs, tmps.getD u undef]) w := by
  rw [results_cell_tmp h, hp]
  simp [asAddr, run_loadVar_row w g t ty cs fr d hg hu hd hi]
end Go.Proofs.YtmcbnhkcjhlbaaaGreatDoor
end
section
namespace Go.Proofs.YtmcbnhkcjhlbaaaGreatDoor
open Go.RowKit
open Go.Proofs.YtmcbnhkcjhlbaaaGreatDoor.One
theorem range_flat {α : Type} (f : Nat → List α) (k : Nat) : (List.range (k + 1)).flatMap f = (List.range k).flatMap f ++ f k := by
  rw [List.range_succ, List.flatMap_append, List.flatMap_cons, List.flatMap_nil, List.append_nil]
theorem flat_len {α : Type} (f : Nat → List α) (m : Nat) (h : ∀ i, (f i).length ≤ m) : ∀ k, ((List.range k).flatMap f).length ≤ k * m
  | 0 => by simp
  | k + 1 => by
    rw [range_flat, List.length_append, Nat.succ_mul]
    exact Nat.add_le_add (flat_len f m h k) (h k)
end Go.Proofs.YtmcbnhkcjhlbaaaGreatDoor
end
section
namespace Go.Proofs.YtmcbnhkcjhlbaaaGreatDoor
open Go.RowKit
open Kit (Chg)
open Sha (v)
open Go.Proofs.YtmcbnhkcjhlbaaaGreatDoor.One
theorem WrAt.len {w : World} {g B : Nat} {bs cs : List Nat} (h : WrAt w g B bs) (e : bs = cs) : WrAt w g B cs := e ▸ h
end Go.Proofs.YtmcbnhkcjhlbaaaGreatDoor
end
section
namespace Go.Proofs.YtmcbnhkcjhlbaaaGreatDoor
namespace Kit
inductive TP where
  | done : TP
  | head : Nat → TP → TP
  | op1 : Nat → TP → TP
  | op2 : Nat → TP → Nat → TP → TP
def TP.depth : TP → Nat
  | .done => 0
  | .head _ r => r.depth + 1
  | .op1 _ r => r.depth + 1
  | .op2 _ r _ _ => r.depth + 1
def TP.heads : List Nat → TP → TP
  | [], r => r
  | i :: l, r => .head i (heads l r)
section
variable {P : Program} {md : Region.Mode} {Q : Exit → Act → World → Prop} {S : World → Prop}
def tplan (P : Program) (Q : Exit → Act → World → Prop) (S : World → Prop) (l : List Oper) : TP → Act → World → Prop
  | .done, a, w => Q .normal a w
  | .head i r, a, w => ∃ o, l[i]? = some o ∧ ∃ v, YieldsIf P l.toArray S o v a ∧ tplan P Q S l r (a.put o.dst v) w
  | .op1 i r, a, w => ∃ o, l[i]? = some o ∧ Region.wanted o (yielded l.toArray a.tmps) = true ∧ ∀ K : Act → World → Prop, (∀ a w, S w → tplan P Q S l r a w → K a w) → o.wp P a w K Q
  | .op2 i r j s, a, w => (∃ o, l[i]? = some o ∧ Region.wanted o (yielded l.toArray a.tmps) = true ∧ ∀ K : Act → World → Prop, (∀ a w, S w → tplan P Q S l r a w → K a w) → o.wp P a w K Q) ∧
      ∃ o, l[j]? = some o ∧ Region.wanted o (yielded l.toArray a.tmps) = true ∧ ∀ K : Act → World → Prop, (∀ a w, S w → tplan P Q S l s a w → K a w) → o.wp P a w K Q
def tplanOk (md : Region.Mode) (ops : Array Oper) : TP → Array Bool → Bool
  | .done, listed => (Region.ready md ops listed).isEmpty
  | .head i r, listed => Region.free md ops listed i && (Region.ready md ops listed).contains i && tplanOk md ops r (listed.setIfInBounds i true)
  | .op1 i r, listed => decide (Region.ready md ops listed = [i]) && tplanOk md ops r (listed.setIfInBounds i true)
  | .op2 i r j s, listed => decide (Region.ready md ops listed = [i, j]) && decide (r.depth = s.depth) && tplanOk md ops r (listed.setIfInBounds i true) && tplanOk md ops s (listed.setIfInBounds j true)
theorem any_of_tplan {l : List Oper} (hsel : Region.noSelect l.toArray = true) (hQ : ∀ c a d v w, Q (.panic c) (a.put d v) w → Q (.panic c) a w) :
    ∀ (t : TP) (listed : Array Bool) (a : Act) (w : World), S w → tplanOk md l.toArray t listed = true → tplan P Q S l t a w → wpAnyH P md l.toArray Q S t.depth listed a w
  | .done, listed, a, w, _, hB, h => by
    simp only [tplanOk, List.isEmpty_iff] at hB
    exact wpAnyH_done hB h 0
  | .head i r, listed, a, w, hS, hB, h => by
    simp only [tplanOk, Bool.and_eq_true] at hB
    obtain ⟨o, ho, v, hy, hr⟩ := h
    exact wpAnyH_take (by simpa using ho) hsel hB.1.1 hB.1.2 (fun c a w => hQ c a _ v w) hy hS (any_of_tplan hsel hQ r _ _ _ hS hB.2 hr)
  | .op1 i r, listed, a, w, hS, hB, h => by
    simp only [tplanOk, Bool.and_eq_true, decide_eq_true_eq] at hB
    obtain ⟨o, ho, hg, hw⟩ := h
    refine wpAnyH_all hB.1 (by simp) ?_
    intro j hj
    have hji : j = i := by simpa using hj
    subst hji
    have ho' : l.toArray[j]? = some o := by simpa using ho
    unfold wpOp
    rw [ho']
    show if Region.wanted o (yielded l.toArray a.tmps) = true then _ else _
    rw [if_pos hg]
    exact .inl (hw _ fun a w hS hc => ⟨hS, any_of_tplan hsel hQ r _ a w hS hB.2 hc⟩)
  | .op2 i r j s, listed, a, w, hS, hB, h => by
    simp only [tplanOk, Bool.and_eq_true, decide_eq_true_eq] at hB
    obtain ⟨⟨⟨hr, hd⟩, hB1⟩, hB2⟩ := hB
    obtain ⟨⟨o, ho, hg, hw⟩, ⟨o2, ho2, hg2, hw2⟩⟩ := h
    refine wpAnyH_all hr (by simp) ?_
    intro k hk
    have hki : k = i ∨ k = j := by simpa using hk
    rcases hki with rfl | rfl
    · have ho' : l.toArray[k]? = some o := by simpa using ho
      unfold wpOp
      rw [ho']
      show if Region.wanted o (yielded l.toArray a.tmps) = true then _ else _
      rw [if_pos hg]
      exact .inl (hw _ fun a w hS hc => ⟨hS, any_of_tplan hsel hQ r _ a w hS hB1 hc⟩)
    · have ho' : l.toArray[k]? = some o2 := by simpa using ho2
      unfold wpOp
      rw [ho']
      show if Region.wanted o2 (yielded l.toArray a.tmps) = true then _ else _
      rw [if_pos hg2]
      refine .inl (hw2 _ fun a w hS hc => ⟨hS, ?_⟩)
      have h := any_of_tplan hsel hQ s _ a w hS hB2 hc
      rw [← hd] at h
      exact h
theorem wp_region_tplan {id : Nat} {a : Act} {w : World} {l : List Oper} (S : World → Prop) (t : TP) (hm : P.follows .mixedOrders = true) (hsel : Region.noSelect l.toArray = true) (hn : l.length = t.depth)
    (hB : tplanOk .any l.toArray t (Array.replicate l.length false) = true) (hS : S w.drew)
    (h : tplan P (NoPanic Q) S l t a w.drew) : (Code.region id l.toArray true).wp P Q a w := by
  refine wp_region_noPanic (wp_region_held (S := S) hm ?_)
  have H := any_of_tplan hsel (fun _ _ _ _ _ h => h) t _ _ _ hS hB h
  rw [← hn] at H
  have e : l.toArray.size = l.length := List.size_toArray
  rw [e]
  exact H
theorem tplan_done {l : List Oper} {a : Act} {w : World} (h : Q .normal a w) : tplan P (NoPanic Q) S l .done a w := h
theorem tplan_head {l : List Oper} {a : Act} {w : World} {i : Nat} {rest : TP} {o : Oper} {v : Value} (ho : l[i]? = some o) (hy : YieldsIf P l.toArray S o v a) (h : tplan P Q S l rest (a.put o.dst v) w) : tplan P Q S l (.head i rest) a w := ⟨o, ho, v, hy, h⟩
theorem tplan_op1 {l : List Oper} {a : Act} {w : World} {i : Nat} {rest : TP} {o : Oper} (ho : l[i]? = some o) (hg : Region.wanted o (yielded l.toArray a.tmps) = true) (h : ∀ K : Act → World → Prop, (∀ a w, S w → tplan P Q S l rest a w → K a w) → o.wp P a w K Q) : tplan P Q S l (.op1 i rest) a w := ⟨o, ho, hg, h⟩
theorem tplan_op2 {l : List Oper} {a : Act} {w : World} {i j : Nat} {r s : TP} (h1 : tplan P Q S l (.op1 i r) a w) (h2 : tplan P Q S l (.op1 j s) a w) : tplan P Q S l (.op2 i r j s) a w := ⟨h1, h2⟩
end
end Kit
end Go.Proofs.YtmcbnhkcjhlbaaaGreatDoor
end
section
namespace Go.Proofs.YtmcbnhkcjhlbaaaGreatDoor
open Go.RowKit
open Kit (Chg)
open Sha (v)
open Go.Proofs.YtmcbnhkcjhlbaaaGreatDoor.One

structure EV where
  e : Ent
  a : Option Addr
  c : Nat
section
variable {α : Type} {f : α → List Value} (hf : ∀ x, (f x).length = 6)
end
structure Hd where
  dev : Int
  seq : Int
  sum : ByteArray
  idx : Int
  ps : List ByteArray
  qs : List ByteArray
structure HV where
  h : Hd
  a1 : Option Addr
  c1 : Nat
  a2 : Option Addr
  c2 : Nat
structure Frk where
  dev : Int
  l0 : List Ent
  l1 : List Ent
  h0 : Hd
  h1 : Hd
structure Lin where
  pub : ByteArray
  log : List Ent
  sealed' : Nat
  head : Hd
  fork : Option Frk
end Go.Proofs.YtmcbnhkcjhlbaaaGreatDoor
end
section
namespace Go.Proofs.YtmcbnhkcjhlbaaaGreatDoor
namespace Kit
section
variable {P : Program} {md : Region.Mode} {Q : Exit → Act → World → Prop} {S : World → Prop}
def hplan (P : Program) (Q : Exit → Act → World → Prop) (S : World → Prop) (l : List Oper) : List (Bool × Nat) → Act → World → Prop
  | [], a, w => Q .normal a w
  | (true, i) :: rest, a, w => ∃ o, l[i]? = some o ∧ ∃ v, YieldsIf P l.toArray S o v a ∧ hplan P Q S l rest (a.put o.dst v) w
  | (false, i) :: rest, a, w => ∃ o, l[i]? = some o ∧ ((Region.wanted o (yielded l.toArray a.tmps) = true ∧ ∀ K : Act → World → Prop, (∀ a w, S w → hplan P Q S l rest a w → K a w) → o.wp P a w K Q) ∨ (Region.wanted o (yielded l.toArray a.tmps) = false ∧ hplan P Q S l rest (a.put o.dst undef) w))
def hplanOk (md : Region.Mode) (ops : Array Oper) : List (Bool × Nat) → Array Bool → Bool
  | [], listed => (Region.ready md ops listed).isEmpty
  | (true, i) :: rest, listed => Region.free md ops listed i && (Region.ready md ops listed).contains i && hplanOk md ops rest (listed.setIfInBounds i true)
  | (false, i) :: rest, listed => decide (Region.ready md ops listed = [i]) && hplanOk md ops rest (listed.setIfInBounds i true)
theorem any_of_hplan {l : List Oper} (hsel : Region.noSelect l.toArray = true) (hQ : ∀ c a d v w, Q (.panic c) (a.put d v) w → Q (.panic c) a w) :
    ∀ (ps : List (Bool × Nat)) (listed : Array Bool) (a : Act) (w : World), S w → hplanOk md l.toArray ps listed = true → hplan P Q S l ps a w → wpAnyH P md l.toArray Q S ps.length listed a w
  | [], listed, a, w, _, hB, h => by
    simp only [hplanOk, List.isEmpty_iff] at hB
    exact wpAnyH_done hB h 0
  | (true, i) :: rest, listed, a, w, hS, hB, h => by
    simp only [hplanOk, Bool.and_eq_true] at hB
    obtain ⟨o, ho, v, hy, hr⟩ := h
    exact wpAnyH_take (by simpa using ho) hsel hB.1.1 hB.1.2 (fun c a w => hQ c a _ v w) hy hS (any_of_hplan hsel hQ rest _ _ _ hS hB.2 hr)
  | (false, i) :: rest, listed, a, w, hS, hB, h => by
    simp only [hplanOk, Bool.and_eq_true, decide_eq_true_eq] at hB
    obtain ⟨o, ho, hgw⟩ := h
    refine wpAnyH_all hB.1 (by simp) ?_
    intro j hj
    have hji : j = i := by simpa using hj
    subst hji
    have ho' : l.toArray[j]? = some o := by simpa using ho
    unfold wpOp
    rw [ho']
    show if Region.wanted o (yielded l.toArray a.tmps) = true then _ else _
    rcases hgw with ⟨hg, hw⟩ | ⟨hg, hw⟩
    · rw [if_pos hg]
      exact .inl (hw _ fun a w hS hc => ⟨hS, any_of_hplan hsel hQ rest _ a w hS hB.2 hc⟩)
    · rw [if_neg (by rw [hg]; decide)]
      exact ⟨hS, any_of_hplan hsel hQ rest _ _ _ hS hB.2 hw⟩
theorem wp_region_hplan {id : Nat} {a : Act} {w : World} {l : List Oper} (S : World → Prop) (ps : List (Bool × Nat)) (hm : P.follows .mixedOrders = true) (hsel : Region.noSelect l.toArray = true) (hn : l.length = ps.length)
    (hB : hplanOk .any l.toArray ps (Array.replicate l.length false) = true) (hS : S w.drew)
    (h : hplan P (NoPanic Q) S l ps a w.drew) : (Code.region id l.toArray true).wp P Q a w := by
  refine wp_region_noPanic (wp_region_held (S := S) hm ?_)
  have H := any_of_hplan hsel (fun _ _ _ _ _ h => h) ps _ _ _ hS hB h
  rw [← hn] at H
  have e : l.toArray.size = l.length := List.size_toArray
  rw [e]
  exact H
theorem hplan_done {l : List Oper} {a : Act} {w : World} (h : Q .normal a w) : hplan P (NoPanic Q) S l [] a w := h
theorem hplan_head {l : List Oper} {a : Act} {w : World} {i : Nat} {rest : List (Bool × Nat)} {o : Oper} {v : Value} (ho : l[i]? = some o) (hy : YieldsIf P l.toArray S o v a) (h : hplan P Q S l rest (a.put o.dst v) w) : hplan P Q S l ((true, i) :: rest) a w := ⟨o, ho, v, hy, h⟩
theorem hplan_op {l : List Oper} {a : Act} {w : World} {i : Nat} {rest : List (Bool × Nat)} {o : Oper} (ho : l[i]? = some o) (hg : Region.wanted o (yielded l.toArray a.tmps) = true) (h : ∀ K : Act → World → Prop, (∀ a w, S w → hplan P Q S l rest a w → K a w) → o.wp P a w K Q) : hplan P Q S l ((false, i) :: rest) a w := ⟨o, ho, .inl ⟨hg, h⟩⟩
theorem hplan_skip {l : List Oper} {a : Act} {w : World} {i : Nat} {rest : List (Bool × Nat)} {o : Oper} (ho : l[i]? = some o) (hg : Region.wanted o (yielded l.toArray a.tmps) = false) (h : hplan P Q S l rest (a.put o.dst undef) w) : hplan P Q S l ((false, i) :: rest) a w := ⟨o, ho, .inr ⟨hg, h⟩⟩
end
end Kit
end Go.Proofs.YtmcbnhkcjhlbaaaGreatDoor
end
section
namespace Go.Proofs.YtmcbnhkcjhlbaaaGreatDoor
namespace Kit
section
variable {P : Program} {md : Region.Mode} {Q : Exit → Act → World → Prop} {S : World → Prop} {L : Nat}
def lplan (P : Program) (Q : Exit → Act → World → Prop) (S : World → Prop) (L : Nat) (l : List Oper) : List (Bool × Nat) → Act → World → Prop
  | [], a, w => Q .normal a w
  | (true, i) :: rest, a, w => ∃ o, l[i]? = some o ∧ ∃ v, YieldsIf P l.toArray S o v a ∧ lplan P Q S L l rest (a.put o.dst v) w
  | (false, i) :: rest, a, w => ∃ o, l[i]? = some o ∧ ((Region.wanted o (yielded l.toArray a.tmps) = true ∧ ∀ K : Act → World → Prop, (∀ a w, (i ≠ L → S w) → lplan P Q S L l rest a w → K a w) → o.wp P a w K Q) ∨ (Region.wanted o (yielded l.toArray a.tmps) = false ∧ lplan P Q S L l rest (a.put o.dst undef) w))
def lplanOk (md : Region.Mode) (ops : Array Oper) (L : Nat) : List (Bool × Nat) → Array Bool → Bool
  | [], listed => (Region.ready md ops listed).isEmpty
  | (true, i) :: rest, listed => Region.free md ops listed i && (Region.ready md ops listed).contains i && Region.waitsFor md ops L i && decide (i ≠ L) && lplanOk md ops L rest (listed.setIfInBounds i true)
  | (false, i) :: rest, listed => decide (Region.ready md ops listed = [i]) && (decide (i ≠ L) || rest.isEmpty) && lplanOk md ops L rest (listed.setIfInBounds i true)
theorem anyS_of_lplan {l : List Oper} (hsel : Region.noSelect l.toArray = true) (hQ : ∀ c a d v w, Q (.panic c) (a.put d v) w → Q (.panic c) a w) :
    ∀ (ps : List (Bool × Nat)) (listed : Array Bool) (a : Act) (w : World), (ps ≠ [] → S w) → lplanOk md l.toArray L ps listed = true → lplan P Q S L l ps a w → anyS P md l.toArray Q S L ps.length listed a w
  | [], listed, a, w, _, hB, h => by
    simp only [lplanOk, List.isEmpty_iff] at hB
    exact ⟨hB, h⟩
  | (true, i) :: rest, listed, a, w, hS, hB, h => by
    simp only [lplanOk, Bool.and_eq_true, decide_eq_true_eq] at hB
    obtain ⟨o, ho, v, hy, hr⟩ := h
    have hS' := hS (by simp)
    have ho' : l.toArray[i]? = some o := by simpa using ho
    exact anyS_first ho' (Region.noSelect_spec hsel) (fun c a w => hQ c a _ v w) hB.1.1.2 hB.1.2 _ _ _ _ (Region.free_spec ho' hB.1.1.1.1) (by simpa using hB.1.1.1.2) hy hS' (anyS_of_lplan hsel hQ rest _ _ _ (fun _ => hS') hB.2 hr)
  | (false, i) :: rest, listed, a, w, hS, hB, h => by
    simp only [lplanOk, Bool.and_eq_true, Bool.or_eq_true, decide_eq_true_eq, List.isEmpty_iff] at hB
    obtain ⟨o, ho, hgw⟩ := h
    refine ⟨fun h0 => (by rw [hB.1.1] at h0; cases h0), fun j hj => ?_⟩
    rw [hB.1.1] at hj
    have hji : j = i := by simpa using hj
    subst hji
    have ho' : l.toArray[j]? = some o := by simpa using ho
    unfold wpOp
    rw [ho']
    show if Region.wanted o (yielded l.toArray a.tmps) = true then _ else _
    rcases hgw with ⟨hg, hw⟩ | ⟨hg, hw⟩
    · rw [if_pos hg]
      exact .inl (hw _ fun a w hS2 hc => ⟨hS2, anyS_of_lplan hsel hQ rest _ a w (fun hne => hS2 (hB.1.2.resolve_right hne)) hB.2 hc⟩)
    · rw [if_neg (by rw [hg]; decide)]
      exact ⟨fun _ => hS (by simp), anyS_of_lplan hsel hQ rest _ _ _ (fun _ => hS (by simp)) hB.2 hw⟩
theorem wp_region_lplan {id : Nat} {a : Act} {w : World} {l : List Oper} (S : World → Prop) (L : Nat) (ps : List (Bool × Nat)) (hm : P.follows .mixedOrders = true) (hsel : Region.noSelect l.toArray = true) (hn : l.length = ps.length)
    (hB : lplanOk .any l.toArray L ps (Array.replicate l.length false) = true) (hS : S w.drew)
    (h : lplan P (NoPanic Q) S L l ps a w.drew) : (Code.region id l.toArray true).wp P Q a w := by
  refine wp_region_noPanic (wp_region_any hm (any_of_anyS _ _ _ _ (S := S) (L := L) ?_))
  have H := anyS_of_lplan (md := .any) (L := L) hsel (fun _ _ _ _ _ h => h) ps _ _ _ (fun _ => hS) hB h
  rw [← hn] at H
  have e : l.toArray.size = l.length := List.size_toArray
  rw [e]
  exact H
theorem lplan_done {l : List Oper} {a : Act} {w : World} (h : Q .normal a w) : lplan P (NoPanic Q) S L l [] a w := h
theorem lplan_head {l : List Oper} {a : Act} {w : World} {i : Nat} {rest : List (Bool × Nat)} {o : Oper} {v : Value} (ho : l[i]? = some o) (hy : YieldsIf P l.toArray S o v a) (h : lplan P Q S L l rest (a.put o.dst v) w) : lplan P Q S L l ((true, i) :: rest) a w := ⟨o, ho, v, hy, h⟩
theorem lplan_op {l : List Oper} {a : Act} {w : World} {i : Nat} {rest : List (Bool × Nat)} {o : Oper} (ho : l[i]? = some o) (hg : Region.wanted o (yielded l.toArray a.tmps) = true) (h : ∀ K : Act → World → Prop, (∀ a w, S w → lplan P Q S L l rest a w → K a w) → o.wp P a w K Q) (hi : i ≠ L) : lplan P Q S L l ((false, i) :: rest) a w := ⟨o, ho, .inl ⟨hg, fun K hK => h K fun a w hS hl => hK a w (fun _ => hS) hl⟩⟩
theorem lplan_last {l : List Oper} {a : Act} {w : World} {o : Oper} (ho : l[L]? = some o) (hg : Region.wanted o (yielded l.toArray a.tmps) = true) (h : ∀ K : Act → World → Prop, (∀ a w, lplan P Q S L l [] a w → K a w) → o.wp P a w K Q) : lplan P Q S L l [(false, L)] a w := ⟨o, ho, .inl ⟨hg, fun K hK => h K fun a w hl => hK a w (fun hn => absurd rfl hn) hl⟩⟩
end
end Kit
end Go.Proofs.YtmcbnhkcjhlbaaaGreatDoor
end
section
namespace Go.Proofs.YtmcbnhkcjhlbaaaGreatDoor
open Go.RowKit
open Kit (Chg)
open Sha (v)
open Go.Proofs.YtmcbnhkcjhlbaaaGreatDoor.One
section
variable {ops : Array Oper} {rest : List Oper} {o : Oper} {a : Act} {Q : Exit → Act → World → Prop}
end
theorem own_none0 (w : World) (T : TypeId) (k : Nat) : (w.alloc (.cells #[] T)).ownsRow w.heap.size T k (.slice (some ⟨w.heap.size, 0, none⟩) 0 0) 0 [] := ⟨by simp, .inr ⟨w.heap.size, 0, #[], rfl, Nat.le_refl _, heap_alloc_new w _, Nat.le_refl _, by decide, by simp, by simp⟩⟩
theorem grown_below {w w' : World} {base e size n : Nat} {v : Value} {xs : List Value} (hown : w.ownsRow base e size v n xs) (hb : base ≤ w.heap.size) (hg : w.grownBy w' v.ownBlock) : Below base w w' :=
  (Chg.of_grown hg (fun q _ e => (hown.lt q e).1) : Chg (fun q _ => base ≤ q) w w').below hb (fun q i hq h => by omega)
end Go.Proofs.YtmcbnhkcjhlbaaaGreatDoor
end
section
namespace Go.Proofs.YtmcbnhkcjhlbaaaGreatDoor
open Go.RowKit
open Kit (Chg)
open Sha (v)
open Go.Proofs.YtmcbnhkcjhlbaaaGreatDoor.One

theorem str_tol (s t : ByteArray) : (s.toList == t.toList) = decide (s = t) := by
  rw [eq_str]
  exact decide_eq_decide.2 ⟨nb_inj, congrArg nb⟩
theorem tol_iff (s t : ByteArray) : s.toList = t.toList ↔ s = t := by
  have h := str_tol s t
  rw [Bool.eq_iff_iff, beq_iff_eq, decide_eq_true_eq] at h
  exact h
def putL (N : Nat) : Nat → List Value → World → World
  | _, [], w => w
  | i, v :: vs, w => putL N (i + 1) vs (w.setCell ⟨N, i, none⟩ v)
theorem putL_below {w0 : World} {B N : Nat} (hN : B ≤ N) : ∀ (vs : List Value) (i : Nat) (w : World), Below B w0 w → Below B w0 (putL N i vs w)
  | [], _, _, h => h
  | v :: vs, i, w, h => putL_below hN vs (i + 1) _ (h.setCell (p := ⟨N, i, none⟩) hN v)
theorem putL_chg {M : Nat → Nat → Prop} {w0 : World} {N : Nat} (hM : ∀ i, M N i) : ∀ (vs : List Value) (i : Nat) (w : World), Chg M w0 w → Chg M w0 (putL N i vs w)
  | [], _, _, h => h
  | v :: vs, i, w, h => putL_chg hM vs (i + 1) _ (h.setCell v (hM i))
theorem putL_heap {N : Nat} {T : TypeId} : ∀ (vs : List Value) (pre cur : List Value) (w : World), w.heap[N]? = some (.cells (pre ++ cur).toArray T (0, 0)) → cur.length = vs.length → (putL N pre.length vs w).heap[N]? = some (.cells (pre ++ vs).toArray T (0, 0))
  | [], pre, cur, w, h, hl => by
    have : cur = [] := List.eq_nil_of_length_eq_zero hl
    subst this
    exact h
  | v :: vs, pre, c :: cur, w, h, hl => by
    have h1 := heap_setCell_same w N pre.length _ T v h
    have h2 : ((pre ++ c :: cur).toArray.setIfInBounds pre.length v) = ((pre ++ [v]) ++ cur).toArray := by
      simp [List.set_append_right]
    rw [h2] at h1
    have h3 := putL_heap vs (pre ++ [v]) cur (w.setCell ⟨N, pre.length, none⟩ v) h1 (by simpa using hl)
    rw [List.length_append, List.append_assoc] at h3
    exact h3
  | v :: vs, pre, [], w, h, hl => by simp at hl
theorem putL_full {N : Nat} {T : TypeId} {cur vs : List Value} {w : World} (h : w.heap[N]? = some (.cells cur.toArray T (0, 0))) (hl : cur.length = vs.length) : (putL N 0 vs w).heap[N]? = some (.cells vs.toArray T (0, 0)) := putL_heap vs [] cur w h hl
end Go.Proofs.YtmcbnhkcjhlbaaaGreatDoor
end
section
namespace Go.Proofs.YtmcbnhkcjhlbaaaGreatDoor
open Go.RowKit
open Kit (Chg)
open Sha (v)
open Go.Proofs.YtmcbnhkcjhlbaaaGreatDoor.One
def entC : Array Value := #[.int .i64 0, .int .i64 0, .int .i64 0, .int .i64 0, .slice none 0 0, .string ByteArray.empty]
section
variable {α : Type} {f : α → List Value} {T : TypeId}
end
section
variable {α : Type} {f : α → List Value} {T : TypeId}
end
end Go.Proofs.YtmcbnhkcjhlbaaaGreatDoor
end
section
namespace Go.Proofs.YtmcbnhkcjhlbaaaGreatDoor
open Go.RowKit
open Kit (Chg)
open Sha (v)
open Go.Proofs.YtmcbnhkcjhlbaaaGreatDoor.One
theorem Laid.low {w w' : World} {N : Nat} (h : Laid w) (hb : Below N w w') (hN : 3 ≤ N) : Laid w' :=
  ⟨fun t ht => (hb.cell (p := ⟨1, t, none⟩) (Nat.lt_of_lt_of_le (by show 1 < 3; decide) hN)).trans (h.kon t ht), fun i hi => (hb.cell (p := ⟨0, 0 + i, none⟩) (Nat.lt_of_lt_of_le (by show 0 < 3; decide) hN)).trans (h.init i hi), (hb.cell (p := ⟨2, 0, none⟩) (Nat.lt_of_lt_of_le (by decide) hN)).trans h.pad0, (hb.cell (p := ⟨2, 1, none⟩) (Nat.lt_of_lt_of_le (by decide) hN)).trans h.pad1⟩
end Go.Proofs.YtmcbnhkcjhlbaaaGreatDoor
end
section
namespace Go.Proofs.YtmcbnhkcjhlbaaaGreatDoor
open Go.RowKit
open Kit (Chg)
open Sha (v)
open Go.Proofs.YtmcbnhkcjhlbaaaGreatDoor.One
section
variable {ops : Array Oper} {rest : List Oper} {o : Oper} {a : Act} {Q : Exit → Act → World → Prop}
end
theorem StrsAt.blk {w : World} {a : Option Addr} {ss : List ByteArray} (h : StrsAt w a ss) : ∀ ad, a = some ad → ss ≠ [] → ad.block < w.heap.size := fun ad e hne => by
  rcases h with h | ⟨b, o, e2, hc⟩
  · exact absurd h hne
  · rw [e2] at e
    cases e
    exact World.block_lt_of_cell? w _ (hc 0 (List.length_pos_iff.2 hne))
end Go.Proofs.YtmcbnhkcjhlbaaaGreatDoor
end
