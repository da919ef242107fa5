/- Texts Wire, Par, Chn, Plan, Awk, App of the proof, each as a section; no premises beyond those that each theorem states. -/
import Derived.Lib.AppendStr
import Derived.Lib.SlBytesConst
import Derived.Shelf.Strings.OnBuilder
import Derived.Great.BuildSlice
import Derived.Test.YtmcbnhkcjhlbaaaGreatDoorP04
set_option linter.unusedVariables false
set_option linter.unusedSimpArgs false
section
namespace Go.Proofs.YtmcbnhkcjhlbaaaGreatDoor
open Go.RowKit
open Kit (Chg)
open Sha (v)
open Go.Proofs.YtmcbnhkcjhlbaaaGreatDoor.One

theorem num_pow (k : Nat) : ∀ n, n < 128 ^ (k + 1) → (num n).length ≤ k + 1 := by
  induction k with
  | zero => intro n h; rw [num_small (by simpa using h)]; simp
  | succ k ih =>
    intro n h
    by_cases h1 : n < 128
    · rw [num_small h1]; simp
    · rw [num_big (by omega), List.length_cons]
      have := ih (n / 128) (by rw [Nat.div_lt_iff_lt_mul (by decide), ← Nat.pow_succ]; exact h)
      omega
theorem num_len10 {n : Nat} (h : n < 18446744073709551616) : (num n).length ≤ 10 := num_pow 9 n (by omega)
set_option maxRecDepth 100000 in
theorem or128 (n : Nat) : bits .or .u8 ((n : Int) % 256) 128 = ((n % 128 + 128 : Nat) : Int) := by
  have e : (n : Int) % 256 = ((n % 256 : Nat) : Int) := by omega
  rw [e]
  show IntKind.u8.wrap ((BitVec.ofInt 8 ((n % 256 : Nat) : Int) ||| BitVec.ofInt 8 (128 : Int)).toNat : Int) = _
  rw [BitVec.toNat_or, ofInt8 _ (by omega), show (BitVec.ofInt 8 (128 : Int)).toNat = 128 from rfl]
  have h2 : ∀ x : Fin 256, (x : Nat) ||| 128 = (x : Nat) % 128 + 128 := by decide
  have h3 := h2 ⟨n % 256, Nat.mod_lt _ (by decide)⟩
  simp only at h3
  rw [h3, IntKind.wrap_u8]
  omega
set_option maxRecDepth 100000 in
set_option maxHeartbeats 1000000 in
theorem extend_any (base : Nat) (x : Value) (bs : List Nat) (n : Nat) (hn : n < 18446744073709551616) (hl : bs.length ≤ 100000) (w : World) (hO : w.ownsRow base 5 1 x bs.length (bvals bs)) (hb : base ≤ w.heap.size) :
    Calls Tryz.prog 164 #[x, .int .u64 (n : Int)] w fun e w' => ∃ v', e = .returned v' ∧ w'.ownsRow base 5 1 v' (bs ++ num n).length (bvals (bs ++ num n)) ∧ Chg (fun q _ => base ≤ q) w w' := by
  have HO := Lib.hid hO
  have HN10 := Lib.hid (num_len10 hn)
  have HL := Lib.hid hl
  have HBB := Lib.hid hb
  obtain ⟨i0, hi, hz0, hz1, hz2⟩ := info_parts Tryz.info5
  have FI := Lib.hid hi
  have FZ0 := Lib.hid hz0
  have FZ1 := Lib.hid hz1
  have FZ2 := Lib.hid hz2
  clear hi hz0 hz1 hz2 hO hl hb
  go_enter Tryz.func164, Tryz.ntmps164
  go_wp2_with fail
  go_loopw [0, 1] (fun x y wr => ∃ (k : Nat) (cur : List Nat), y = .int .u64 (k : Int) ∧ k < 18446744073709551616 ∧ Hid (cur ++ num k = bs ++ num n) ∧ Hid (wr.ownsRow base 5 1 x cur.length (bvals cur)) ∧ Hid (Chg (fun q _ => base ≤ q) w wr)) (fun _ y _ => (intOf y).toNat)
  case atStart => exact ⟨n, bs, rfl, hn, rfl, HO.out, Chg.refl _ _⟩
  case round =>
    obtain ⟨k, cur, rfl, hk, HE, HOW, HC⟩ := hrel
    have HCL : Hid (cur.length ≤ 100010) := Lib.hid (by have := congrArg List.length HE.out; rw [List.length_append, List.length_append] at this; have := HN10.out; have := HL.out; omega)
    have HBS : Hid (base ≤ wr.heap.size) := Lib.hid (by have := HC.out.size; have := HBB.out; omega)
    by_cases h128 : 128 ≤ k
    · have hi128 : (128 : Int) ≤ (k : Int) := by omega
      have HBV : Hid (bvals cur ++ [.int .u8 (bits .or .u8 ((k : Int) % 256) 128)] = bvals (cur ++ [k % 128 + 128])) := Lib.hid (by rw [bvals_snoc, or128])
      have HNE : Hid (cur ++ [k % 128 + 128] ++ num (k / 128) = bs ++ num n) := Lib.hid (by rw [← HE.out, num_big h128]; simp)
      go_wp2_with (first
        | (at_builtin
           refine wpList_append_own _ rfl _ _ 52 rfl base 5 i0 (.int .u8 0) 1 1 Tryz.underlying52 FI.out FZ0.out FZ1.out FZ2.out rfl (by decide) _ _ _ rfl (HOW.out.alloc _) ⟨wr.heap.size, 0, none⟩ 1 1 [.int .u8 (bits .or .u8 ((k : Int) % 256) 128)] rfl rfl (cell_one_new _ _ _) (by simp [Value.oneCell']) (by have := HCL.out; unfold maxLen; omega) (by have := HCL.out; omega) (by have := HBS.out; simp; omega) ?_
           intro v' w4 hown4 hgr4 _
           have HO4 : Hid (w4.ownsRow base 5 1 v' (cur.length + 1) (bvals (cur ++ [k % 128 + 128]))) := by rw [← HBV.out]; exact hown4
           have HC4 : Hid (Chg (fun q _ => base ≤ q) wr w4) := (Chg.alloc1 wr _).trans (Chg.of_grown hgr4 (fun q _ e => (HOW.out.lt q e).1))
           clear hown4 hgr4))
      go_roundw
      case rel => exact ⟨k / 128, cur ++ [k % 128 + 128], by go_num, by omega, HNE.out, by rw [List.length_append]; exact HO4.out, HC.out.trans HC4.out⟩
      case measure => simp [intOf]; omega
    · have hi128 : ¬ (128 : Int) ≤ (k : Int) := by omega
      have HBV : Hid (bvals cur ++ [.int .u8 (k : Int)] = bvals (cur ++ [k])) := Lib.hid (by rw [bvals_snoc])
      have HNE : Hid (cur ++ [k] = bs ++ num n) := Lib.hid (by rw [← HE.out, num_small (by omega)])
      go_wp2_with (first
        | (at_builtin
           refine wpList_append_own _ rfl _ _ 52 rfl base 5 i0 (.int .u8 0) 1 1 Tryz.underlying52 FI.out FZ0.out FZ1.out FZ2.out rfl (by decide) _ _ _ rfl (HOW.out.alloc _) ⟨wr.heap.size, 0, none⟩ 1 1 [.int .u8 (k : Int)] rfl rfl (cell_one_new _ _ _) (by simp [Value.oneCell']) (by have := HCL.out; unfold maxLen; omega) (by have := HCL.out; omega) (by have := HBS.out; simp; omega) ?_
           intro v' w4 hown4 hgr4 _
           have HO4 : Hid (w4.ownsRow base 5 1 v' (cur.length + 1) (bvals (cur ++ [k]))) := by rw [← HBV.out]; exact hown4
           have HC4 : Hid (Chg (fun q _ => base ≤ q) wr w4) := (Chg.alloc1 wr _).trans (Chg.of_grown hgr4 (fun q _ e => (HOW.out.lt q e).1))
           clear hown4 hgr4))
      go_ret
      refine ⟨_, rfl, ?_, HC.out.trans HC4.out⟩
      have h := HO4.out
      have e : cur.length + 1 = (bs ++ num n).length := by rw [← HNE.out]; simp
      rw [e, HNE.out, List.length_append] at h
      exact h
set_option maxRecDepth 100000 in
set_option maxHeartbeats 1000000 in
theorem appUint_any (a : Option Addr) (cap : Nat) (xs : List Nat) (hnil : a = none → cap = 0) (n : Nat) (hn : n < 18446744073709551616) (hl : xs.length ≤ 10000) (w : World) (hB : BytesAt w a xs) :
    Calls Tryz.prog 166 #[.slice a xs.length cap, .int .u64 (n : Int)] w fun e w' => ∃ v' c, e = .returned v' ∧ c = (xs ++ num n).length ∧ w'.ownsRow w.heap.size 5 1 v' c (bvals (xs ++ num n)) ∧ Below w.heap.size w w' := by
  have HB := Lib.hid hB
  have HL := Lib.hid hl
  have HNIL := Lib.hid hnil
  obtain ⟨i0, hi, hz0, hz1, hz2⟩ := info_parts Tryz.info5
  have FI := Lib.hid hi
  have FZ0 := Lib.hid hz0
  have FZ1 := Lib.hid hz1
  have FZ2 := Lib.hid hz2
  clear hi hz0 hz1 hz2 hB hnil
  go_enter Tryz.func166, Tryz.ntmps166
  go_wp2_with (first
    | (at_make
       refine wpList_make_own _ rfl (.const (.int .i64 0)) (.tmp 7) 52 rfl w.heap.size 5 i0 (.int .u8 0) 1 Tryz.underlying52 FI.out FZ0.out FZ1.out .i64 .i64 ((xs.length : Int) + 10) (xs.length + 10) (by rfl) (by rfl) (by omega) (by rw [FZ2.out]; have := HL.out; omega) (by have := HL.out; unfold maxLen; omega) (Nat.le_refl _) ?_
       intro w1 hown1 hgr1
       have HO1 := Lib.hid hown1
       have HB1 : Hid (Below w.heap.size w w1) := Lib.hid ((Chg.of_grown (M := fun _ _ => False) hgr1 (fun q _ e => by cases e)).below (Nat.le_refl _) (fun _ _ _ h => h))
       have HBY1 := Lib.hid (HB.out.later HB1.out)
       clear hown1 hgr1)
    | (at_builtin
       refine wpList_append_src rfl (.tmp 8) (.tmp 9) 52 rfl w.heap.size 5 i0 (.int .u8 0) 1 1 Tryz.underlying52 FI.out FZ0.out FZ1.out FZ2.out rfl (by decide) _ _ _ (by rfl) HO1.out a xs.length cap (bvals xs) (by rfl) (HBY1.out.src cap HNIL.out) (bvals_one _) (by have := HL.out; unfold maxLen; omega) (by have := HL.out; omega) (by have := HB1.out.size; omega) ?_
       intro v2 w2 hown2 hgr2
       have HO2 : Hid (w2.ownsRow w.heap.size 5 1 v2 xs.length (bvals xs)) := by have h := hown2; rw [Nat.zero_add, List.nil_append] at h; exact h
       have HC2 : Hid (Chg (fun q _ => w.heap.size ≤ q) w1 w2) := Chg.of_grown hgr2 (fun q _ e => (HO1.out.lt q e).1)
       have HB2 : Hid (Below w.heap.size w w2) := Lib.hid (HB1.out.trans (HC2.out.below HB1.out.size (fun q i hq h => by omega)))
       clear hown2 hgr2)
    | (with_reducible refine (extend_any w.heap.size v2 xs n hn (by have := HL.out; omega) w2 HO2.out HB2.out.size).mono ?_
       rintro e w3 ⟨v3, rfl, h3, h4⟩
       obtain ⟨c, hc⟩ := ex_eq (xs ++ num n).length
       rw [hc] at h3
       have HC := Lib.hid hc
       have H3 := Lib.hid h3
       have H4 := Lib.hid h4
       clear h3 h4 hc))
  go_ret
  exact ⟨_, c, rfl, HC.out.symm, H3.out, HB2.out.trans (H4.out.below HB2.out.size (fun q i hq h => by omega))⟩
end Go.Proofs.YtmcbnhkcjhlbaaaGreatDoor
end
section
namespace Go.Proofs.YtmcbnhkcjhlbaaaGreatDoor
open Go.RowKit
open Kit (Chg)
open Sha (v)
open Go.Proofs.YtmcbnhkcjhlbaaaGreatDoor.One

def VP (B S : Int) : Prop := (B = 1 ∨ B = 2 ∨ B = 4 ∨ B = 8) ∧ 1 ≤ S ∧ S ≤ 32
end Go.Proofs.YtmcbnhkcjhlbaaaGreatDoor
end
section
namespace Go.Proofs.YtmcbnhkcjhlbaaaGreatDoor
open Go.RowKit
open Kit (Chg)
open Sha (v)
open Go.Proofs.YtmcbnhkcjhlbaaaGreatDoor.One

theorem strCells_bvals (s : ByteArray) : Go.Lib.strCells s = bvals (nb s) := by
  unfold Go.Lib.strCells bvals nb
  rw [List.map_map]
  rfl
theorem wpList_append_str {P : Program} {w : World} {ops : Array Oper} {rest : List Oper} {o : Oper} {a : Act} {Q : Exit → Act → World → Prop} (hgd : o.guard = none) (s x : Operand) (t u : TypeId)
    (ho : o.op = .call { callee := .builtin .append, args := #[s, x], argTypes := #[t, u] })
    (base : Nat) (e : TypeId) (i : TypeInfo) (ht : P.underlying t = some (.slice e)) (hu : P.underlying u = some .string) (hi : P.info? e = some i) (hz : i.zero = some (.int .u8 0)) (hsize : i.size = 1) (hby : i.bytes = 1)
    (v : Value) (n : Nat) (xs : List Value) (hs : a.eval s = v) (hown : w.ownsRow base e 1 v n xs) (str : ByteArray) (hx : a.eval x = .string str)
    (h63 : n + str.size ≤ maxLen) (hbytes : n + str.size ≤ 140737488355328) (hbase : base ≤ w.heap.size)
    (h : ∀ v' w', w'.ownsRow base e 1 v' (n + str.size) (xs ++ bvals (nb str)) → w.grownBy w' v.ownBlock → wpList P ops Q rest (a.put o.dst v') w') : wpList P ops Q (o :: rest) a w := by
  refine wpList_plain hgd fun K hK => ?_
  obtain ⟨v', w', hrun, h1, h2, _⟩ := Go.Lib.run_append_own_string (P := P) w base t u o.type e i ht hu hi hz hsize hby v n xs hown str h63 hbytes hbase
  rw [strCells_bvals] at h1
  unfold Oper.wp
  simp [execOp, ho, resolve, invoke, builtin, hs, hx, hrun, Result.andThen]
  exact hK _ _ (h v' w' h1 h2)
theorem lit_bytes {w : World} {N : Nat} {bs : List Nat} {R : Array Value} {t : TypeId} {fr : Nat × Nat} (hg : w.heap[N]? = some (.cells R t fr)) (hR : (bvals bs).toArray = R) (hb : ∀ x ∈ bs, x < 256) (hl : bs.length ≤ maxLen) : BytesAt w (some ⟨N, 0, none⟩) bs := by
  subst hR
  refine ⟨.inr ⟨N, 0, rfl, fun i hi => ?_⟩, hb, hl⟩
  rw [cell_of_row _ _ _ _ _ _ hg, Nat.zero_add, List.getElem?_toArray]
  simp [bvals, hi]
theorem lit_alloc {w : World} {bs : List Nat} {R : Array Value} {fr : Nat × Nat} (hR : (bvals bs).toArray = R) (hb : ∀ x ∈ bs, x < 256) (hl : bs.length ≤ maxLen) : BytesAt (w.alloc (.cells R 5 fr)) (some ⟨w.heap.size, 0, none⟩) bs :=
  lit_bytes (heap_alloc_new _ _) hR hb hl
theorem appUint_l (a : Option Addr) (cap : Nat) (xs : List Nat) (L : Nat) (hL : xs.length = L) (hnil : a = none → cap = 0) (n : Nat) (hn : n < 18446744073709551616) (hl : xs.length ≤ 10000) (w : World) (hB : BytesAt w a xs) (DS : List Nat) (hDS : xs ++ num n = DS) :
    Calls Tryz.prog 166 #[.slice a L cap, .int .u64 (n : Int)] w fun e w' => ∃ v' c, e = .returned v' ∧ c = DS.length ∧ w'.ownsRow w.heap.size 5 1 v' c (bvals DS) ∧ Below w.heap.size w w' := by
  subst hL hDS
  exact appUint_any a cap xs hnil n hn hl w hB
theorem own_bytes {w : World} {base n : Nat} {v : Value} {bs : List Nat} (h : w.ownsRow base 5 1 v n (bvals bs)) (hb : ∀ x ∈ bs, x < 256) (hm : bs.length ≤ maxLen) :
    ∃ a cap, v = .slice a n cap ∧ bs.length = n ∧ bs.length ≤ cap ∧ BytesAt w a bs ∧ (a = none → cap = 0) ∧ ∀ ad, a = some ad → base ≤ ad.block ∧ ad.block < w.heap.size := by
  obtain ⟨hn, a, cap, rfl, h1, h2, h3, h4⟩ := bytes_of_own h hb hm
  exact ⟨a, cap, by rw [hn], hn.symm, h1, h3, h4, fun ad e => by subst e; exact h.lt ad.block rfl⟩
theorem sum_l (a : Option Addr) (cap : Nat) (xs : List Nat) (L : Nat) (hLe : xs.length = L) (hcap : xs.length ≤ cap) (hnil : a = none → cap = 0) (hl : xs.length ≤ 100000000000) (w : World) (hB : BytesAt w a xs) (hlt : ∀ ad, a = some ad → 0 < xs.length → ad.block < w.heap.size) (hL : Laid w) :
    Calls Tryz.prog 14 #[.slice a L cap] w fun e w' => ∃ u : ByteArray, e = .returned (.string u) ∧ nb u = Sha.sum xs ∧ Below w.heap.size w w' := by
  subst hLe
  refine (sum_any a cap xs hcap hnil hl w hB hlt hL.kon hL.init).mono ?_
  rintro e w' ⟨bs, rfl, h1, h2⟩
  exact ⟨strB bs, rfl, by rw [h1]; exact nb_strB (Sha.sum_lt _), h2⟩
theorem nb_size {u : ByteArray} {xs : List Nat} (h : nb u = xs) (hl : xs.length = 32) : u.size = 32 := by rw [← nb_length, h]; exact hl
theorem app_lt {xs ys : List Nat} (hx : ∀ x ∈ xs, x < 256) (hy : ∀ y ∈ ys, y < 256) : ∀ x ∈ xs ++ ys, x < 256 := fun x h => (List.mem_append.1 h).elim (hx x) (hy x)
end Go.Proofs.YtmcbnhkcjhlbaaaGreatDoor
end
section
namespace Go.Proofs.YtmcbnhkcjhlbaaaGreatDoor
namespace Kit
section
variable {P : Program} {md : Region.Mode} {Q : Exit → Act → World → Prop} {S : World → Prop}
end
end Kit
open Go.RowKit
open Kit (Chg)
open Go.Proofs.YtmcbnhkcjhlbaaaGreatDoor.One

def strV (ss : List ByteArray) : List Value := ss.map Value.string
theorem strV_length (ss : List ByteArray) : (strV ss).length = ss.length := by simp [strV]
theorem strV_app (ss : List ByteArray) (s : ByteArray) : strV (ss ++ [s]) = strV ss ++ [.string s] := by simp [strV]
theorem strV_get (ss : List ByteArray) (i : Nat) (h : i < ss.length) : (strV ss)[i]? = some (.string (ss.getD i ByteArray.empty)) := by simp [strV, h]
theorem strs_of_own {w : World} {base n : Nat} {v : Value} {ss : List ByteArray} (h : w.ownsRow base 9 1 v n (strV ss)) :
    ∃ a cap, v = .slice a n cap ∧ ss.length = n ∧ ss.length ≤ cap ∧ StrsAt w a ss ∧ (a = none → cap = 0) ∧ ∀ ad, a = some ad → base ≤ ad.block ∧ ad.block < w.heap.size := by
  obtain ⟨hl, hv⟩ := h
  rw [strV_length, Nat.mul_one] at hl
  subst hl
  rcases hv with ⟨rfl, h0⟩ | ⟨g, cap, cur, rfl, hbg, hg, hnc, hcm, hcs, htake⟩
  · exact ⟨none, 0, by rw [h0], rfl, by omega, .inl (List.eq_nil_of_length_eq_zero h0), fun _ => rfl, (fun ad e => by cases e)⟩
  · refine ⟨some ⟨g, 0, none⟩, cap, rfl, rfl, hnc, .inr ⟨g, 0, rfl, fun i hi => ?_⟩, (fun e => by cases e), (fun ad e => by cases e; exact ⟨hbg, (Array.getElem?_eq_some_iff.1 hg).1⟩)⟩
    rw [Nat.zero_add, cell_of_row _ _ _ _ _ _ hg]
    have h1 := strV_get ss i hi
    rw [← htake, Nat.mul_one, List.getElem?_take_of_lt hi] at h1
    simpa using h1
theorem strs_of_row {w : World} {g : Nat} {ss : List ByteArray} {t : TypeId} (h : w.heap[g]? = some (.cells (strV ss).toArray t (0, 0))) : StrsAt w (some ⟨g, 0, none⟩) ss := by
  refine .inr ⟨g, 0, rfl, fun i hi => ?_⟩
  rw [Nat.zero_add, cell_of_row _ _ _ _ _ _ h, List.getElem?_toArray]
  exact strV_get ss i hi
end Go.Proofs.YtmcbnhkcjhlbaaaGreatDoor
end
section
namespace Go.Proofs.YtmcbnhkcjhlbaaaGreatDoor
open Go.RowKit
open Kit (Chg)
open Sha (v)
open Go.Proofs.YtmcbnhkcjhlbaaaGreatDoor.One
def SP (B S : Int) : Prop := B ≤ 4 ∧ S ≤ 8 ∨ S ≤ 2
end Go.Proofs.YtmcbnhkcjhlbaaaGreatDoor
end
section
namespace Go.Proofs.YtmcbnhkcjhlbaaaGreatDoor
open Go.RowKit
open Kit (Chg)
open Go.Proofs.YtmcbnhkcjhlbaaaGreatDoor.One
section
variable {ops : Array Oper} {rest : List Oper} {o : Oper} {a : Act} {Q : Exit → Act → World → Prop}
theorem app_bytes {w0 : World} (hgd : o.guard = none) (s x : Operand) (ho : o.op = .call { callee := .builtin .append, args := #[s, x], argTypes := #[52, 52] })
    (base : Nat) (v : Value) (L : Nat) (cur : List Nat) (hs : a.eval s = v) (hown : w0.ownsRow base 5 1 v L (bvals cur)) (hb : base ≤ w0.heap.size) (hL : L ≤ 1000000000000)
    (ao : Option Addr) (m c : Nat) (xs : List Nat) (hm : xs.length = m) (hm2 : m ≤ 1000000000000) (hx : a.eval x = .slice ao m c) (hB : BytesAt w0 ao xs) (hnil : ao = none → c = 0)
    (h : ∀ v' w', w'.ownsRow base 5 1 v' (L + m) (bvals (cur ++ xs)) → Below base w0 w' → wpList Tryz.prog ops Q rest (a.put o.dst v') w') : wpList Tryz.prog ops Q (o :: rest) a w0 := by
  obtain ⟨i0, hi, hz0, hz1, hz2⟩ := info_parts Tryz.info5
  subst hm
  refine wpList_append_src hgd s x 52 ho base 5 i0 (.int .u8 0) 1 1 Tryz.underlying52 hi hz0 hz1 hz2 rfl (by decide) v L (bvals cur) hs hown ao xs.length c (bvals xs) hx (hB.src c hnil) (bvals_one _) (by unfold maxLen; omega) (by omega) hb ?_
  intro v' w4 hown4 hgr4
  refine h v' w4 (by rw [bvals_append]; exact hown4) ?_
  exact (Chg.of_grown hgr4 (fun q _ e => (hown.lt q e).1) : Chg (fun q _ => base ≤ q) w0 w4).below hb (fun q i hq h => by omega)
theorem app_four {w0 : World} (hgd : o.guard = none) (s x : Operand) (ho : o.op = .call { callee := .builtin .append, args := #[s, x], argTypes := #[52, 52] })
    (base : Nat) (v : Value) (L : Nat) (cur : List Nat) (hs : a.eval s = v) (hown : w0.ownsRow base 5 1 v L (bvals cur)) (hb : base ≤ w0.heap.size) (hL : L ≤ 1000000000000)
    (E0 E1 E2 E3 : Int) (bs : List Nat) (hE : bvals bs = [.int .u8 E0, .int .u8 E1, .int .u8 E2, .int .u8 E3]) (c : Nat) (hx : a.eval x = .slice (some ⟨w0.heap.size, 0, none⟩) 4 c)
    (h : ∀ v' w', w'.ownsRow base 5 1 v' (L + 4) (bvals (cur ++ bs)) → Below base w0 w' → wpList Tryz.prog ops Q rest (a.put o.dst v') w') : wpList Tryz.prog ops Q (o :: rest) a (w0.alloc (.cells #[.int .u8 E0, .int .u8 E1, .int .u8 E2, .int .u8 E3] 5)) := by
  obtain ⟨i0, hi, hz0, hz1, hz2⟩ := info_parts Tryz.info5
  refine wpList_append_own _ hgd s x 52 ho base 5 i0 (.int .u8 0) 1 1 Tryz.underlying52 hi hz0 hz1 hz2 rfl (by decide) v L (bvals cur) hs (hown.alloc _) ⟨w0.heap.size, 0, none⟩ 4 c [.int .u8 E0, .int .u8 E1, .int .u8 E2, .int .u8 E3] hx rfl (by intro j u hu; rw [add_none]; exact cells_new_at _ _ _ j u hu) (by simp [Value.oneCell']) (by unfold maxLen; omega) (by omega) (by simp; omega) ?_
  intro v' w4 hown4 hgr4 _
  refine h v' w4 (by rw [bvals_append, hE]; exact hown4) ?_
  exact ((Chg.alloc1 w0 _).trans (Chg.of_grown hgr4 (fun q _ e => (hown.lt q e).1)) : Chg (fun q _ => base ≤ q) w0 w4).below hb (fun q i hq h => by omega)
theorem app_str {w0 : World} (hgd : o.guard = none) (s x : Operand) (ho : o.op = .call { callee := .builtin .append, args := #[s, x], argTypes := #[130, 130] })
    (base : Nat) (v : Value) (L : Nat) (cur : List ByteArray) (hs : a.eval s = v) (hown : w0.ownsRow base 9 1 v L (strV cur)) (hb : base ≤ w0.heap.size) (hL : L ≤ 1000000000000)
    (b : ByteArray) (c : Nat) (hx : a.eval x = .slice (some ⟨w0.heap.size, 0, none⟩) 1 c)
    (h : ∀ v' w', w'.ownsRow base 9 1 v' (L + 1) (strV (cur ++ [b])) → Below base w0 w' → wpList Tryz.prog ops Q rest (a.put o.dst v') w') : wpList Tryz.prog ops Q (o :: rest) a (w0.alloc (.cells #[.string b] 9)) := by
  obtain ⟨i0, hi, hz0, hz1, hz2⟩ := info_parts Tryz.info9
  refine wpList_append_own _ hgd s x 130 ho base 9 i0 (.string ByteArray.empty) 1 16 Tryz.underlying130 hi hz0 hz1 hz2 rfl (by decide) v L (strV cur) hs (hown.alloc _) ⟨w0.heap.size, 0, none⟩ 1 c [.string b] hx rfl (cell_one_new _ _ _) (by simp [Value.oneCell']) (by unfold maxLen; omega) (by omega) (by simp; omega) ?_
  intro v' w4 hown4 hgr4 _
  refine h v' w4 (by rw [strV_app]; exact hown4) ?_
  exact ((Chg.alloc1 w0 _).trans (Chg.of_grown hgr4 (fun q _ e => (hown.lt q e).1)) : Chg (fun q _ => base ≤ q) w0 w4).below hb (fun q i hq h => by omega)
end
theorem own_later {w w' : World} {base e size n : Nat} {v : Value} {xs : List Value} (h : w.ownsRow base e size v n xs) (hb : Below w.heap.size w w') : w'.ownsRow base e size v n xs := ownsRow_keep h (Chg.of_below (M := fun _ _ => False) hb) (fun _ _ _ h => h)
end Go.Proofs.YtmcbnhkcjhlbaaaGreatDoor
end
