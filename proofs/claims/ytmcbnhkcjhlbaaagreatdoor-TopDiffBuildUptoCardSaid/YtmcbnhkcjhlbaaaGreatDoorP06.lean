/- Texts KRoll, KPush, KTable, KNew, KRef, KZeros, KAwake, KLawsA, KOf, KChunk of the proof, each as a section; no premises beyond those that each theorem states. -/
import Derived.WalkKit
import Derived.Test.YtmcbnhkcjhlbaaaGreatDoorRows
import Derived.WalkSpells
import Derived.WalkLawsBesides
import Derived.Lib.Hide
import Derived.Deep.Cut
import Derived.Deep.CutBlock
import Derived.Deep.RegionLaw
import Derived.Laws.CopyOwn
import Derived.Shelf.Spec.TrailingZeros
import Derived.Test.YtmcbnhkcjhlbaaaGreatDoorP00
set_option linter.unusedVariables false
set_option linter.unusedSimpArgs false
section
namespace Go.Proofs.YtmcbnhkcjhlbaaaGreatDoor.Ck
namespace Roll
open Go.RowKit (Hid)

def u (x : BitVec 64) : Int := (x.toNat : Int)

theorem u_nonneg (x : BitVec 64) : 0 ≤ u x := Int.natCast_nonneg _
theorem wrap_add (x y : BitVec 64) : IntKind.u64.wrap (u x + u y) = u (x + y) := by
  rw [IntKind.wrap_u64]; unfold u; rw [BitVec.toNat_add]; omega
theorem wrap_mul (x : BitVec 64) (c : Nat) : IntKind.u64.wrap (u x * (c : Int)) = u (x * BitVec.ofNat 64 c) := by
  rw [IntKind.wrap_u64]; unfold u
  rw [BitVec.toNat_mul, BitVec.toNat_ofNat, Nat.mul_mod_mod, Int.natCast_emod, Int.natCast_mul]; rfl
theorem xor_u (x y : BitVec 64) : bits .xor .u64 (u x) (u y) = u (x ^^^ y) := by
  unfold u; rw [u64_xor_nat _ _ x.isLt y.isLt, BitVec.toNat_xor]
theorem or_u (x y : BitVec 64) : bits .or .u64 (u x) (u y) = u (x ||| y) := by
  unfold u; rw [u64_or_nat _ _ x.isLt y.isLt, BitVec.toNat_or]
theorem shr_u (x : BitVec 64) (k : Nat) : u x / ((2 ^ k : Nat) : Int) = u (x >>> k) := by
  unfold u; rw [BitVec.toNat_ushiftRight, Nat.shiftRight_eq_div_pow, Int.natCast_ediv]
theorem shl_u (x : BitVec 64) (k : Nat) : IntKind.u64.wrap (u x * ((2 ^ k : Nat) : Int)) = u (x <<< k) := by
  rw [IntKind.wrap_u64]; unfold u; rw [BitVec.toNat_shiftLeft, Nat.shiftLeft_eq, Int.natCast_emod, Int.natCast_mul]; rfl

theorem u_ofNat (n : Nat) : IntKind.u64.wrap (n : Int) = u (BitVec.ofNat 64 n) := by
  rw [IntKind.wrap_u64]; unfold u; rw [BitVec.toNat_ofNat, Int.natCast_emod]; rfl

def mixA (z : BitVec 64) : BitVec 64 := (z ^^^ z >>> 30) * BitVec.ofNat 64 13787848793156543929
def mixB (z : BitVec 64) : BitVec 64 := (z ^^^ z >>> 27) * BitVec.ofNat 64 10723151780598845931
def mixC (z : BitVec 64) : BitVec 64 := z ^^^ z >>> 31
def start (s : BitVec 64) (i : Nat) : BitVec 64 := s + BitVec.ofNat 64 (i + 1) * BitVec.ofNat 64 11400714819323198485
def num (s : BitVec 64) (i : Nat) : BitVec 64 := mixC (mixB (mixA (start s i)))

theorem mixA_walk (z : BitVec 64) : IntKind.u64.wrap (u (z ^^^ z >>> 30) * 13787848793156543929) = u (mixA z) := wrap_mul (z ^^^ z >>> 30) 13787848793156543929
theorem mixB_walk (z : BitVec 64) : IntKind.u64.wrap (u (z ^^^ z >>> 27) * 10723151780598845931) = u (mixB z) := wrap_mul (z ^^^ z >>> 27) 10723151780598845931
theorem start_walk (k : BitVec 64) : IntKind.u64.wrap (u k * 11400714819323198485) = u (k * BitVec.ofNat 64 11400714819323198485) := wrap_mul k 11400714819323198485
theorem shr30 (z : BitVec 64) : u z / (1073741824 : Int) = u (z >>> 30) := shr_u z 30
theorem shr27 (z : BitVec 64) : u z / (134217728 : Int) = u (z >>> 27) := shr_u z 27
theorem shr31 (z : BitVec 64) : u z / (2147483648 : Int) = u (z >>> 31) := shr_u z 31

theorem and63 (i : Nat) (h : i < 18446744073709551616) : bits .and .u64 (i : Int) 63 = ((i % 64 : Nat) : Int) := by
  have := u64_and_nat i 63 h (by decide)
  rw [nat_mask6] at this
  exact this
theorem shl_rot (x : BitVec 64) (k : Nat) : IntKind.u64.wrap (u x * 2 ^ k) = u (x <<< k) := by
  have := shl_u x k
  rw [Int.natCast_pow] at this
  exact this
theorem shr_rot (x : BitVec 64) (k : Nat) : u x / 2 ^ k = u (x >>> k) := by
  have := shr_u x k
  rw [Int.natCast_pow] at this
  exact this
theorem rot_eq (x : BitVec 64) (i : Nat) : x <<< (i % 64) ||| x >>> (64 - i % 64) = x.rotateLeft i := rfl

theorem rot_zero (x : BitVec 64) : x.rotateLeft 0 = x := by
  apply BitVec.eq_of_getLsbD_eq; intro i hi; simp [hi]
theorem rot_rot (x : BitVec 64) (a b : Nat) : (x.rotateLeft a).rotateLeft b = x.rotateLeft (a + b) := by
  apply BitVec.eq_of_getLsbD_eq
  intro i hi
  simp only [BitVec.getLsbD_rotateLeft]
  have e : (a + b) % 64 = (a % 64 + b % 64) % 64 := Nat.add_mod a b 64
  have ha := Nat.mod_lt a (show 64 > 0 by decide)
  have hb := Nat.mod_lt b (show 64 > 0 by decide)
  rw [e]
  generalize a % 64 = m at *
  generalize b % 64 = n at *
  by_cases h1 : i < n
  · have h2 : 64 - n + i < 64 := by omega
    by_cases h3 : 64 - n + i < m
    · have h4 : (m + n) % 64 = m + n - 64 := by omega
      have h5 : i < (m + n) % 64 := by omega
      simp only [h1, h3, h5, cond_true, decide_true]
      congr 1; omega
    · by_cases h6 : m + n < 64
      · have h4 : (m + n) % 64 = m + n := by omega
        have h5 : i < (m + n) % 64 := by omega
        simp [h1, h3, h5, h2]
        congr 1; omega
      · have h4 : (m + n) % 64 = m + n - 64 := by omega
        have h5 : ¬ i < (m + n) % 64 := by omega
        simp [h1, h3, h5, h2, hi]
        congr 1; omega
  · by_cases h3 : i - n < m
    · by_cases h6 : m + n < 64
      · have h4 : (m + n) % 64 = m + n := by omega
        have h5 : i < (m + n) % 64 := by omega
        simp [h1, h3, h5, hi]
        congr 1; omega
      · have h4 : (m + n) % 64 = m + n - 64 := by omega
        have h5 : ¬ i < (m + n) % 64 := by omega
        simp [h1, h3, h5, hi]
        congr 1; omega
    · have h6 : m + n < 64 := by omega
      have h4 : (m + n) % 64 = m + n := by omega
      have h5 : ¬ i < (m + n) % 64 := by omega
      have h7 : i - n < 64 := by omega
      simp [h1, h3, h5, hi, h7]
      congr 1; omega
theorem rot_xor (x y : BitVec 64) (a : Nat) : (x ^^^ y).rotateLeft a = x.rotateLeft a ^^^ y.rotateLeft a := by
  apply BitVec.eq_of_getLsbD_eq
  intro i hi
  simp only [BitVec.getLsbD_rotateLeft, BitVec.getLsbD_xor]
  by_cases h : i < a % 64 <;> simp [h, hi]
def hash (s : BitVec 64) (bs : List Nat) : BitVec 64 := bs.foldl (fun h x => h.rotateLeft 1 ^^^ num s x) 0

theorem hash_nil (s : BitVec 64) : hash s [] = 0 := rfl
theorem hash_snoc (s : BitVec 64) (bs : List Nat) (x : Nat) : hash s (bs ++ [x]) = (hash s bs).rotateLeft 1 ^^^ num s x := by
  unfold hash; rw [List.foldl_append]; rfl
theorem zero_rot (a : Nat) : (0 : BitVec 64).rotateLeft a = 0 := by
  apply BitVec.eq_of_getLsbD_eq; intro i hi; simp [BitVec.getLsbD_rotateLeft]
theorem hash_from (s : BitVec 64) (bs : List Nat) : ∀ h : BitVec 64, bs.foldl (fun h x => h.rotateLeft 1 ^^^ num s x) h = h.rotateLeft bs.length ^^^ hash s bs := by
  induction bs with
  | nil => intro h; rw [hash_nil, List.foldl_nil, List.length_nil, rot_zero]; simp
  | cons x bs ih =>
    intro h
    have e : hash s (x :: bs) = ((0 : BitVec 64).rotateLeft 1 ^^^ num s x).rotateLeft bs.length ^^^ hash s bs := by
      unfold hash; rw [List.foldl_cons]; exact ih _
    rw [List.foldl_cons, ih, e, rot_xor, rot_xor, rot_rot, rot_rot, zero_rot, show (0 : BitVec 64) ^^^ (num s x).rotateLeft bs.length = (num s x).rotateLeft bs.length from BitVec.zero_xor, List.length_cons, Nat.add_comm 1, BitVec.xor_assoc]
theorem hash_append (s : BitVec 64) (xas bs : List Nat) : hash s (xas ++ bs) = (hash s xas).rotateLeft bs.length ^^^ hash s bs := by
  rw [← hash_from]
  unfold hash
  rw [List.foldl_append]
theorem hash_one (s : BitVec 64) (x : Nat) : hash s [x] = num s x := by
  unfold hash; simp
theorem hash_tail (s : BitVec 64) (y : Nat) (bs : List Nat) : hash s (y :: bs) ^^^ (num s y).rotateLeft bs.length = hash s bs := by
  have h := hash_append s [y] bs
  rw [List.singleton_append] at h
  rw [h, hash_one, BitVec.xor_comm, ← BitVec.xor_assoc, BitVec.xor_self, BitVec.zero_xor]
def pushed (win : Nat) (bs : List Nat) (x : Nat) : List Nat := if bs.length = win then bs.tail ++ [x] else bs ++ [x]
/-! ### The same facts xas rewrite rules for a walk. Each stands under a hidden premise Q: a closed fact on all bit vectors would be taken by 'contradiction' for one that can be decided by trying them all. -/
section
variable (Q : Prop)
theorem f_start : ∀ k : BitVec 64, Hid Q → IntKind.u64.wrap (u k * 11400714819323198485) = u (k * BitVec.ofNat 64 11400714819323198485) := fun k _ => start_walk k
theorem f_mixA : ∀ z : BitVec 64, Hid Q → IntKind.u64.wrap (u (z ^^^ z >>> 30) * 13787848793156543929) = u (mixA z) := fun z _ => mixA_walk z
theorem f_mixB : ∀ z : BitVec 64, Hid Q → IntKind.u64.wrap (u (z ^^^ z >>> 27) * 10723151780598845931) = u (mixB z) := fun z _ => mixB_walk z
theorem f_shr30 : ∀ z : BitVec 64, Hid Q → u z / (1073741824 : Int) = u (z >>> 30) := fun z _ => shr30 z
theorem f_shr27 : ∀ z : BitVec 64, Hid Q → u z / (134217728 : Int) = u (z >>> 27) := fun z _ => shr27 z
theorem f_shr31 : ∀ z : BitVec 64, Hid Q → u z / (2147483648 : Int) = u (z >>> 31) := fun z _ => shr31 z
theorem f_xor : ∀ x y : BitVec 64, Hid Q → bits .xor .u64 (u x) (u y) = u (x ^^^ y) := fun x y _ => xor_u x y
theorem f_or : ∀ x y : BitVec 64, Hid Q → bits .or .u64 (u x) (u y) = u (x ||| y) := fun x y _ => or_u x y
theorem f_add : ∀ x y : BitVec 64, Hid Q → IntKind.u64.wrap (u x + u y) = u (x + y) := fun x y _ => wrap_add x y
theorem f_nonneg : ∀ x : BitVec 64, Hid Q → 0 ≤ u x := fun x _ => u_nonneg x
theorem f_shl (k : Nat) : ∀ x : BitVec 64, Hid Q → IntKind.u64.wrap (u x * 2 ^ k) = u (x <<< k) := fun x _ => shl_rot x k
theorem f_shr (k : Nat) : ∀ x : BitVec 64, Hid Q → u x / 2 ^ k = u (x >>> k) := fun x _ => shr_rot x k
end
end Roll
end Go.Proofs.YtmcbnhkcjhlbaaaGreatDoor.Ck
end
section
namespace Go.Proofs.YtmcbnhkcjhlbaaaGreatDoor.Ck
open Go.RowKit
open Roll (u)
open Go.Proofs.YtmcbnhkcjhlbaaaGreatDoor.Kit (Chg)
set_option maxHeartbeats 400000 in
theorem rot_any (s : BitVec 64) (i : Nat) (w : World) (h1 : i ≤ 64) :
    Calls Tryz.prog 168 #[.int .u64 (u s), .int .i64 i] w fun e w' => e = .returned (.int .u64 (u (s.rotateLeft i))) ∧ w' = w := by
  have r1 := Roll.and63 i (by omega)
  have hk : i % 64 ≤ 63 := by omega
  rw [← Roll.rot_eq]
  generalize i % 64 = k at r1 hk
  obtain ⟨Q0, hq0⟩ : ∃ Q : Prop, Hid Q := ⟨True, trivial⟩
  have r2 := Roll.f_shl Q0
  have r3 := Roll.f_shr Q0
  have r4 := Roll.f_or Q0
  have r9 := Roll.f_nonneg Q0
  have e1 : IntKind.u64.wrap (i : Int) = (i : Int) := by rw [IntKind.wrap_u64]; omega
  have e2 : IntKind.u64.wrap (64 - (k : Int)) = ((64 - k : Nat) : Int) := by rw [IntKind.wrap_u64]; omega
  go_enter Tryz.func168, Tryz.ntmps168
  go_wp2
  go_ret
  exact ⟨rfl, rfl⟩
theorem rot_one (s : BitVec 64) (w : World) :
    Calls Tryz.prog 168 #[.int .u64 (u s), .int .i64 1] w fun e w' => e = .returned (.int .u64 (u (s.rotateLeft 1))) ∧ w' = w := rot_any s 1 w (by omega)

structure RollAt (w : World) (b o : Nat) (s : BitVec 64) (win : Nat) (bs : List Nat) (st : Nat) : Prop where
  table : ∀ i, i < 256 → w.cell? ⟨b, o + i, none⟩ = some (.int .u64 (u (Roll.num s i)))
  ring : ∀ i, i < 64 → ∃ v : Nat, v < 256 ∧ w.cell? ⟨b, o + 256 + i, none⟩ = some (.int .u8 (v : Int))
  held : ∀ i, i < bs.length → w.cell? ⟨b, o + 256 + (st + i) % 64, none⟩ = some (.int .u8 ((bs.getD i 0 : Nat) : Int))
  window : w.cell? ⟨b, o + 320, none⟩ = some (.int .i64 (win : Int))
  start : w.cell? ⟨b, o + 321, none⟩ = some (.int .i64 (st : Int))
  length : w.cell? ⟨b, o + 322, none⟩ = some (.int .i64 (bs.length : Int))
  sum : w.cell? ⟨b, o + 323, none⟩ = some (.int .u64 (u (Roll.hash s bs)))
  free : ∀ i, i < 324 → w.frozen? ⟨b, o + i, none⟩ = false
  st64 : st < 64
  win1 : 1 ≤ win
  win64 : win ≤ 64
  full : bs.length ≤ win
  bytes : ∀ x ∈ bs, x < 256

def rollCells (b o : Nat) : Nat → Nat → Prop := fun k i => k = b ∧ o + 256 ≤ i ∧ i < o + 324

structure Pushed (b o p x st len : Nat) (sum : BitVec 64) (w w' : World) : Prop where
  chg : Chg (fun k i => k = b ∧ (i = o + 256 + p ∨ i = o + 321 ∨ i = o + 322 ∨ i = o + 323)) w w'
  ring : w'.cell? ⟨b, o + 256 + p, none⟩ = some (.int .u8 (x : Int))
  start : w'.cell? ⟨b, o + 321, none⟩ = some (.int .i64 (st : Int))
  length : w'.cell? ⟨b, o + 322, none⟩ = some (.int .i64 (len : Int))
  sum : w'.cell? ⟨b, o + 323, none⟩ = some (.int .u64 (u sum))

theorem ne_addr {b i j : Nat} (h : i ≠ j) : (⟨b, i, none⟩ : Addr) ≠ ⟨b, j, none⟩ := by
  intro e; cases e; exact h rfl
theorem set_same {w : World} {b i : Nat} {v x : Value} (h : w.cell? ⟨b, i, none⟩ = some x) : (w.setCell ⟨b, i, none⟩ v).cell? ⟨b, i, none⟩ = some v := World.cell?_setCell_same _ _ _ h
theorem set_other {w : World} {b i j : Nat} {v x : Value} (h : w.cell? ⟨b, j, none⟩ = some x) (hne : i ≠ j) : (w.setCell ⟨b, i, none⟩ v).cell? ⟨b, j, none⟩ = some x :=
  (World.cell?_setCell_other _ _ _ _ (ne_addr hne)).trans h

set_option maxRecDepth 100000 in
set_option maxHeartbeats 400000 in
theorem push_room_cells (b o : Nat) (x : Nat) (tx sum : BitVec 64) (win st len p : Nat) (w : World) (hx : x < 256) (hw1 : len < win) (hw2 : win ≤ 64) (hst : st < 64) (old : Value)
    (hp : (st + len) % 64 = p)
    (h0 : w.cell? ⟨b, o + x, none⟩ = some (.int .u64 (u tx)))
    (h1 : w.cell? ⟨b, o + 256 + p, none⟩ = some old)
    (h2 : w.cell? ⟨b, o + 320, none⟩ = some (.int .i64 win))
    (h3 : w.cell? ⟨b, o + 321, none⟩ = some (.int .i64 st))
    (h4 : w.cell? ⟨b, o + 322, none⟩ = some (.int .i64 len))
    (h5 : w.cell? ⟨b, o + 323, none⟩ = some (.int .u64 (u sum)))
    (f1 : w.frozen? ⟨b, o + 256 + p, none⟩ = false)
    (f4 : w.frozen? ⟨b, o + 322, none⟩ = false)
    (f5 : w.frozen? ⟨b, o + 323, none⟩ = false) :
    Calls Tryz.prog 128 #[.pointer (some ⟨b, o, none⟩), .int .u8 x] w fun e w' => e = .returned (.tuple #[]) ∧ Pushed b o p x st (len + 1) (sum.rotateLeft 1 ^^^ tx) w w' := by
  have hp64 : p < 64 := by omega
  rw [← hp] at h1 f1
  have HP := Lib.hid hp
  clear hp
  obtain ⟨Q0, hq0⟩ : ∃ Q : Prop, Hid Q := ⟨True, trivial⟩
  have r7 := Roll.f_xor Q0
  have hx1 : (x : Int) < 256 := by omega
  have hx0 : (0 : Int) ≤ x := by omega
  have hne : ((len : Int) == (win : Int)) = false := by rw [beq_eq_false_iff_ne]; omega
  have hs0 : (st : Int) < 64 := by omega
  have hs1 : (len : Int) < 64 := by omega
  go_enter Tryz.func128, Tryz.ntmps128
  go_wp2_with fail
  refine Kit.wp_region_quiet_tail 15 (by kernel_rfl) (by kernel_rfl) ?_
  simp only [List.take_succ_cons, List.take_zero, List.drop_succ_cons, List.drop_zero]
  repeat (first | go_big_quiet_step (fail) | (go_big_quiet_want; go_big_quiet_op; refine ⟨_, rot_one _ _, ?_⟩; go_big_quiet_on))
  refine wpQuiet_nil ?_
  go_wp2_with fail
  go_quiet (fail)
  go_wp2_with fail
  refine Kit.wp_region_quiet_tail 15 (by kernel_rfl) (by kernel_rfl) ?_
  simp only [List.take_succ_cons, List.take_zero, List.drop_succ_cons, List.drop_zero]
  repeat (go_big_quiet_step (fail))
  refine wpQuiet_nil ?_
  go_wp2_with fail
  go_end0
  have hp := HP.out
  rw [hp] at h1 ⊢
  refine ⟨rfl, ((((Chg.setCell1 _ _ _ _ ⟨rfl, by omega⟩).drewN _).setCell _ ⟨rfl, by omega⟩).setCell _ ⟨rfl, by omega⟩), ?_, ?_, ?_, ?_⟩
  · exact set_other (set_same (set_other h1 (by omega))) (by omega)
  · exact set_other (set_other (set_other h3 (by omega)) (by omega)) (by omega)
  · exact set_same (set_other (set_other h4 (by omega)) (by omega))
  · exact set_other (set_other (set_same h5) (by omega)) (by omega)

theorem wp_over {P : Program} {c : Code} {Q : Exit → Act → World → Prop} {a : Act} {w : World} (I : World → Prop) (h0 : I w) (h : ∀ w', I w' → c.wp P Q a w') : c.wp P Q a w := h w h0

set_option maxRecDepth 100000 in
set_option maxHeartbeats 400000 in
theorem push_full_cells (b o : Nat) (x : Nat) (tx ty sum : BitVec 64) (st len y p st' : Nat) (w : World) (hx : x < 256) (hy : y < 256) (hw2 : len + 1 ≤ 64) (hst : st < 64) (old : Value)
    (hs' : (st + 1) % 64 = st') (hp : (st' + len) % 64 = p)
    (h0 : w.cell? ⟨b, o + x, none⟩ = some (.int .u64 (u tx)))
    (hy0 : w.cell? ⟨b, o + y, none⟩ = some (.int .u64 (u ty)))
    (h1 : w.cell? ⟨b, o + 256 + p, none⟩ = some old)
    (hr : w.cell? ⟨b, o + 256 + st, none⟩ = some (.int .u8 y))
    (h2 : w.cell? ⟨b, o + 320, none⟩ = some (.int .i64 (len + 1 : Nat)))
    (h3 : w.cell? ⟨b, o + 321, none⟩ = some (.int .i64 st))
    (h4 : w.cell? ⟨b, o + 322, none⟩ = some (.int .i64 (len + 1 : Nat)))
    (h5 : w.cell? ⟨b, o + 323, none⟩ = some (.int .u64 (u sum)))
    (f1 : w.frozen? ⟨b, o + 256 + p, none⟩ = false)
    (f3 : w.frozen? ⟨b, o + 321, none⟩ = false)
    (f4 : w.frozen? ⟨b, o + 322, none⟩ = false)
    (f5 : w.frozen? ⟨b, o + 323, none⟩ = false) :
    Calls Tryz.prog 128 #[.pointer (some ⟨b, o, none⟩), .int .u8 x] w fun e w' => e = .returned (.tuple #[]) ∧ Pushed b o p x st' (len + 1) (sum.rotateLeft 1 ^^^ tx ^^^ ty.rotateLeft (len + 1)) w w' := by
  have hp64 : p < 64 := by omega
  have HP := Lib.hid hp
  have HS := Lib.hid hs'
  clear hp hs'
  generalize hL : len + 1 = L at hw2 h2 h4 ⊢
  have HL := Lib.hid hL
  clear hL
  obtain ⟨Q0, hq0⟩ : ∃ Q : Prop, Hid Q := ⟨True, trivial⟩
  have r7 := Roll.f_xor Q0
  have hx1 : (x : Int) < 256 := by omega
  have hx0 : (0 : Int) ≤ x := by omega
  have hy1 : (y : Int) < 256 := by omega
  have hy0' : (0 : Int) ≤ y := by omega
  have hne : ((L : Int) == (L : Int)) = true := by simp
  have hs0 : (st : Int) < 64 := by omega
  have hs1 : (L : Int) ≤ 64 := by omega
  go_enter Tryz.func128, Tryz.ntmps128
  go_wp2_with fail
  refine Kit.wp_region_quiet_tail 15 (by kernel_rfl) (by kernel_rfl) ?_
  simp only [List.take_succ_cons, List.take_zero, List.drop_succ_cons, List.drop_zero]
  repeat (first | go_big_quiet_step (fail) | (go_big_quiet_want; go_big_quiet_op; refine ⟨_, rot_one _ _, ?_⟩; go_big_quiet_on))
  refine wpQuiet_nil ?_
  go_wp2_with fail
  go_quiet (fail)
  go_wp2_with fail
  refine Kit.wp_region_quiet_tail 26 (by kernel_rfl) (by kernel_rfl) ?_
  simp only [List.take_succ_cons, List.take_zero, List.drop_succ_cons, List.drop_zero]
  repeat (first | go_big_quiet_step (fail) | (go_big_quiet_want; go_big_quiet_op; refine ⟨_, rot_any _ _ _ hw2, ?_⟩; go_big_quiet_on))
  refine wpQuiet_nil ?_
  go_wp2_with fail
  refine wp_over (fun W => Chg (fun k i => k = b ∧ (i = o + 256 + p ∨ i = o + 321 ∨ i = o + 322 ∨ i = o + 323)) w W ∧ W.cell? ⟨b, o + 256 + p, none⟩ = some old ∧ W.frozen? ⟨b, o + 256 + p, none⟩ = false ∧ W.frozen? ⟨b, o + 322, none⟩ = false ∧
    W.cell? ⟨b, o + 321, none⟩ = some (.int .i64 st') ∧ W.cell? ⟨b, o + 322, none⟩ = some (.int .i64 len) ∧ W.cell? ⟨b, o + 323, none⟩ = some (.int .u64 (u (sum.rotateLeft 1 ^^^ tx ^^^ ty.rotateLeft L)))) ?_ ?_
  · have hS := HS.out
    have hL := HL.out
    have e1 : ((st : Int) + 1) % 64 = (st' : Int) := by omega
    have e2 : (L : Int) - 1 = (len : Int) := by omega
    rw [e1, e2]
    refine ⟨((((Chg.setCell1 _ _ _ _ ⟨rfl, by omega⟩).drewN _).setCell _ ⟨rfl, by omega⟩).setCell _ ⟨rfl, by omega⟩).setCell _ ⟨rfl, by omega⟩, ?_, ?_, ?_, ?_, ?_, ?_⟩
    · exact set_other (set_other (set_other (set_other h1 (by omega)) (by omega)) (by omega)) (by omega)
    · simpa using f1
    · simpa using f4
    · exact set_other (set_same (set_other (set_other h3 (by omega)) (by omega))) (by omega)
    · exact set_same (set_other (set_other (set_other h4 (by omega)) (by omega)) (by omega))
    · exact set_other (set_other (set_same (set_same h5)) (by omega)) (by omega)
  rintro W ⟨hP, g1, g2, g3, g4, g5, g6⟩
  have HPP := Lib.hid hP
  clear hP h0 hy0 h1 hr h2 h3 h4 h5 f1 f3 f4 f5
  have hp := HP.out
  rw [← hp] at g1 g2
  clear hp
  have hs2 : (st' : Int) < 64 := by have := HS.out; omega
  have hs3 : (len : Int) < 64 := by have := HL.out; omega
  clear hs0
  refine Kit.wp_region_quiet_tail 15 (by kernel_rfl) (by kernel_rfl) ?_
  simp only [List.take_succ_cons, List.take_zero, List.drop_succ_cons, List.drop_zero]
  repeat (go_big_quiet_step (fail))
  refine wpQuiet_nil ?_
  go_wp2_with fail
  go_end0
  have hp := HP.out
  rw [hp] at g1 ⊢
  rw [← HL.out] at g6 ⊢
  refine ⟨rfl, ((HPP.out.setCell _ ⟨rfl, by omega⟩).setCell _ ⟨rfl, by omega⟩).drew, ?_, ?_, ?_, ?_⟩
  · exact set_other (set_same g1) (by omega)
  · exact set_other (set_other g4 (by omega)) (by omega)
  · exact set_same (set_other g5 (by omega))
  · exact set_other (set_other g6 (by omega)) (by omega)

theorem roll_pushed {b o : Nat} {s : BitVec 64} {win : Nat} {bs bs1 : List Nat} {st st' p x : Nat} {w w' : World} (h : RollAt w b o s win bs st)
    (hP : Pushed b o p x st' (bs1.length + 1) (Roll.hash s (bs1 ++ [x])) w w') (hp : (st' + bs1.length) % 64 = p) (hst' : st' < 64)
    (hold : ∀ i, i < bs1.length → w.cell? ⟨b, o + 256 + (st' + i) % 64, none⟩ = some (.int .u8 ((bs1.getD i 0 : Nat) : Int)))
    (hfull : bs1.length + 1 ≤ win) (hb : ∀ x ∈ bs1, x < 256) (hx : x < 256) : RollAt w' b o s win (bs1 ++ [x]) st' := by
  have hp64 : p < 64 := by omega
  have h64 := h.win64
  refine ⟨fun i hi => hP.chg.cell (h.table i hi) (by omega), fun i hi => ?_, fun i hi => ?_, hP.chg.cell h.window (by omega), hP.start, ?_, hP.sum, fun i hi => ?_, hst', h.win1, h64, by simpa using hfull, ?_⟩
  · by_cases hip : i = p
    · subst hip; exact ⟨x, hx, hP.ring⟩
    · obtain ⟨v, hv, hc⟩ := h.ring i hi
      exact ⟨v, hv, hP.chg.cell hc (by omega)⟩
  · simp only [List.length_append, List.length_singleton] at hi
    by_cases hil : i = bs1.length
    · subst hil
      rw [hp, hP.ring]; simp
    · have hlt : i < bs1.length := by omega
      have hne : (st' + i) % 64 ≠ p := by omega
      rw [List.getD_eq_getElem?_getD, List.getElem?_append_left hlt, ← List.getD_eq_getElem?_getD]
      exact hP.chg.cell (hold i hlt) (by omega)
  · rw [hP.length]; simp
  · rw [hP.chg.frozen h.window ⟨o + 320, by omega⟩]; exact h.free i hi
  · intro y hy
    rcases List.mem_append.1 hy with hy | hy
    · exact hb y hy
    · simp at hy; omega

theorem push_any (b o : Nat) (s : BitVec 64) (win : Nat) (bs : List Nat) (st x : Nat) (hx : x < 256) (w : World) (h : RollAt w b o s win bs st) :
    Calls Tryz.prog 128 #[.pointer (some ⟨b, o, none⟩), .int .u8 x] w fun e w' => e = .returned (.tuple #[]) ∧ (∃ st', RollAt w' b o s win (Roll.pushed win bs x) st') ∧ Chg (rollCells b o) w w' := by
  have h64 := h.st64
  have hw1 := h.win1
  have hw2 := h.win64
  have hfull := h.full
  by_cases hl : bs.length = win
  · obtain ⟨y, bs', rfl⟩ : ∃ y bs', bs = y :: bs' := by
      cases bs with
      | nil => simp at hl; omega
      | cons y bs' => exact ⟨y, bs', rfl⟩
    have hlen : (y :: bs').length = bs'.length + 1 := rfl
    have hy : y < 256 := h.bytes y (by simp)
    have hm1 : (st + 1) % 64 < 64 := Nat.mod_lt _ (by decide)
    have hm2 : ((st + 1) % 64 + bs'.length) % 64 < 64 := Nat.mod_lt _ (by decide)
    obtain ⟨v, hv, hcv⟩ := h.ring _ hm2
    have hhead : w.cell? ⟨b, o + 256 + st, none⟩ = some (.int .u8 (y : Int)) := by
      have := h.held 0 (by simp)
      rw [Nat.add_zero st, Nat.mod_eq_of_lt h64] at this
      simpa using this
    have hwin := h.window
    rw [← hl, hlen] at hwin
    refine (push_full_cells b o x (Roll.num s x) (Roll.num s y) (Roll.hash s (y :: bs')) st bs'.length y _ _ w hx hy (by omega) h64 _ rfl rfl (h.table x hx) (h.table y hy) hcv hhead hwin h.start h.length h.sum
      (by have := h.free (256 + ((st + 1) % 64 + bs'.length) % 64) (by omega); rwa [← Nat.add_assoc] at this) (h.free 321 (by decide)) (h.free 322 (by decide)) (h.free 323 (by decide))).mono ?_
    rintro e w' ⟨rfl, hP⟩
    have e1 : (Roll.hash s (y :: bs')).rotateLeft 1 ^^^ Roll.num s x ^^^ (Roll.num s y).rotateLeft (bs'.length + 1) = Roll.hash s (bs' ++ [x]) := by
      have := Roll.hash_tail s y (bs' ++ [x])
      rw [← this, ← List.cons_append, Roll.hash_snoc, List.length_append, List.length_singleton]
    have e2 : Roll.pushed win (y :: bs') x = bs' ++ [x] := by unfold Roll.pushed; rw [if_pos hl]; rfl
    rw [e1] at hP
    refine ⟨rfl, ⟨(st + 1) % 64, ?_⟩, hP.chg.mono fun k i _ hk => ⟨hk.1, by omega, by omega⟩⟩
    rw [e2]
    refine roll_pushed h hP rfl hm1 (fun i hi => ?_) (by omega) (fun z hz => h.bytes z (by simp [hz])) hx
    have := h.held (i + 1) (by omega)
    have e3 : ((st + 1) % 64 + i) % 64 = (st + (i + 1)) % 64 := by omega
    rw [e3, this]; simp
  · have hm2 : (st + bs.length) % 64 < 64 := Nat.mod_lt _ (by decide)
    obtain ⟨v, hv, hcv⟩ := h.ring _ hm2
    refine (push_room_cells b o x (Roll.num s x) (Roll.hash s bs) win st bs.length _ w hx (by omega) hw2 h64 _ rfl (h.table x hx) hcv h.window h.start h.length h.sum
      (by have := h.free (256 + (st + bs.length) % 64) (by omega); rwa [← Nat.add_assoc] at this) (h.free 322 (by decide)) (h.free 323 (by decide))).mono ?_
    rintro e w' ⟨rfl, hP⟩
    have e2 : Roll.pushed win bs x = bs ++ [x] := by unfold Roll.pushed; rw [if_neg hl]
    rw [← Roll.hash_snoc] at hP
    refine ⟨rfl, ⟨st, ?_⟩, hP.chg.mono fun k i _ hk => ⟨hk.1, by omega, by omega⟩⟩
    rw [e2]
    exact roll_pushed h hP rfl h64 h.held (by omega) h.bytes hx
end Go.Proofs.YtmcbnhkcjhlbaaaGreatDoor.Ck
end
section
namespace Go.Proofs.YtmcbnhkcjhlbaaaGreatDoor.Ck
open Go.RowKit
open Roll (u)
open Go.Proofs.YtmcbnhkcjhlbaaaGreatDoor.Kit (Chg)

def TabUpTo (s : BitVec 64) (N k : Nat) (w : World) : Prop :=
  ∃ cs : Array Value, w.heap[N]? = some (.cells cs 23 (0, 0)) ∧ cs.size = 256 ∧ ∀ i, i < k → cs[i]? = some (.int .u64 (u (Roll.num s i)))

def TabRel (s : BitVec 64) (w : World) (i : Value) (wr : World) : Prop := ∃ k : Nat, k ≤ 256 ∧ i = .int .i64 k ∧ Below w.heap.size w wr ∧ TabUpTo s w.heap.size k wr

set_option maxRecDepth 100000 in
set_option maxHeartbeats 400000 in
theorem table_any (s : BitVec 64) (w : World) :
    Calls Tryz.prog 167 #[.int .u64 (u s)] w fun e w' => e = .returned (.slice (some ⟨w.heap.size, 0, none⟩) 256 256) ∧ w.heap.size < w'.heap.size ∧ Below w.heap.size w w' ∧ TabUpTo s w.heap.size 256 w' := by
  have hmk : ∀ w, (Instr.makeSlice 278 (.int .i64 256) (.int .i64 256)).run Tryz.prog w = .ok (.slice (some ⟨w.heap.size, 0, none⟩) 256 256) (w.alloc (.cells (Array.replicate 256 (.int .u64 0)) 23)) := fun _ => by kernel_rfl
  obtain ⟨Q0, hq0⟩ : ∃ Q : Prop, Hid Q := ⟨True, trivial⟩
  have r1 := Roll.f_start Q0
  have r2 := Roll.f_mixA Q0
  have r3 := Roll.f_mixB Q0
  have r4 := Roll.f_shr30 Q0
  have r5 := Roll.f_shr27 Q0
  have r6 := Roll.f_shr31 Q0
  have r7 := Roll.f_xor Q0
  have r8 := Roll.f_add Q0
  have r9 := Roll.f_nonneg Q0
  go_enter Tryz.func167, Tryz.ntmps167
  go_wp2_with fail
  go_loopw [9] (fun i wr => TabRel s w i wr) (fun i _ => 256 - (intOf i).toNat)
  case atStart =>
    refine ⟨0, Nat.zero_le _, rfl, (Below.refl _ _).alloc (Nat.le_refl _) _, Array.replicate 256 (.int .u64 0), heap_alloc_new _ _, by simp, fun i hi => by omega⟩
  case round =>
    obtain ⟨k, hk, rfl, hb, cs, hcs, hsz, hall⟩ := hrel
    by_cases hlt : k < 256
    · have hc : wr.cell? ⟨w.heap.size, k, none⟩ = some (cs[k]'(by omega)) := by rw [cell_of_row _ _ _ _ _ _ hcs]; simp [hsz, hlt]
      have hf : wr.frozen? ⟨w.heap.size, k, none⟩ = false := frozen_of_row _ _ _ _ _ hcs
      have r0 : IntKind.u64.wrap ((k : Int) + 1) = u (BitVec.ofNat 64 (k + 1)) := Roll.u_ofNat (k + 1)
      have HB := Lib.hid hb
      have HC := Lib.hid hcs
      have HA := Lib.hid hall
      have HZ := Lib.hid hsz
      generalize cs[k]'(by omega) = old at hc
      clear hb hcs hall hsz hmk
      go_wp2
      go_roundw
      case rel =>
        refine ⟨k + 1, by omega, by go_num, HB.out.setCell (Nat.le_refl _) _, cs.setIfInBounds k (.int .u64 (u (Roll.num s k))), heap_setCell_same _ _ _ _ _ _ HC.out, by simp [HZ.out], fun i hi => ?_⟩
        by_cases e : i = k
        · subst e; simp [HZ.out, hlt]
        · rw [Array.getElem?_setIfInBounds_ne (by omega)]; exact HA.out i (by omega)
      case measure => simp [intOf]; omega
    · have HB := Lib.hid hb
      have HT := Lib.hid (show TabUpTo s w.heap.size k wr from ⟨cs, hcs, hsz, hall⟩)
      have HS := Lib.hid (Array.getElem?_eq_some_iff.1 hcs).1
      clear hb hcs hall hsz hmk r1 r2 r3 r4 r5 r6 r7 r8 r9 hq0
      go_wp2
      go_ret
      have e : k = 256 := by omega
      exact ⟨rfl, HS.out, HB.out, e ▸ HT.out⟩
end Go.Proofs.YtmcbnhkcjhlbaaaGreatDoor.Ck
end
section
namespace Go.Proofs.YtmcbnhkcjhlbaaaGreatDoor.Ck
open Go.RowKit
open Roll (u)
open Go.Proofs.YtmcbnhkcjhlbaaaGreatDoor.Kit (Chg)

def tabCells (s : BitVec 64) : List Value := (List.range 256).map fun i => .int .u64 (u (Roll.num s i))

theorem tabCells_length (s : BitVec 64) : (tabCells s).length = 256 := by simp [tabCells]
theorem tabCells_one (s : BitVec 64) : ∀ v ∈ tabCells s, v.oneCell' = true := by
  intro v hv
  simp only [tabCells, List.mem_map] at hv
  obtain ⟨i, _, rfl⟩ := hv
  rfl
theorem tabCells_get (s : BitVec 64) (j : Nat) (h : j < 256) : (tabCells s)[j]? = some (.int .u64 (u (Roll.num s j))) := by
  simp [tabCells, h]
theorem tab_src {s : BitVec 64} {N : Nat} {w : World} (h : TabUpTo s N 256 w) : ∀ j v, (tabCells s)[j]? = some v → w.cell? ((⟨N, 0, none⟩ : Addr).add j) = some v := by
  intro j v hv
  have hj : j < 256 := by
    have := (List.getElem?_eq_some_iff.1 hv).1
    rwa [tabCells_length] at this
  obtain ⟨cs, h1, h2, h3⟩ := h
  rw [tabCells_get s j hj] at hv
  have e : (⟨N, 0, none⟩ : Addr).add j = ⟨N, j, none⟩ := by unfold Addr.add; split <;> simp_all
  rw [e, cell_of_row _ _ _ _ _ _ h1, h3 j hj, hv]

noncomputable def blank (win : Int) : List Value := (Tryz.zeroCells164.setIfInBounds 320 (Value.int .i64 win)).toList

theorem blank_length (win : Int) : (blank win).length = 324 := by
  have h : Tryz.zeroCells164.size = 324 := by kernel_rfl
  unfold blank
  rw [Array.length_toList, Array.size_setIfInBounds, h]

theorem new_tab {N : Nat} {w W w1 : World} {C : Array Value} (HS : W.heap.size = N + 1) (HC : W.heap[N]? = some (.cells C 164 (0, 0))) (HB : Below N w W) (hb : Below W.heap.size W.drew w1) :
    w1.heap[N]? = some (.cells C 164 (0, 0)) ∧ Below N w w1 :=
  ⟨(hb.block N (by omega)).trans HC, HB.drew.trans (hb.mono (by omega))⟩

theorem tab_min (s : BitVec 64) : (tabCells s).length = Nat.min 256 256 := tabCells_length s
theorem tab_fits (s : BitVec 64) (win : Int) : 0 + (tabCells s).length ≤ (blank win).length := by rw [tabCells_length, blank_length]; omega

def NewPost (s : BitVec 64) (win : Int) (w w' : World) : Prop :=
  w'.heap[w.heap.size]? = some (.cells (splice (blank win) 0 (tabCells s)).toArray 164 (0, 0)) ∧ Below w.heap.size w w'

set_option maxRecDepth 100000 in
set_option maxHeartbeats 400000 in
theorem new_cells (s : BitVec 64) (win : Int) (h1 : 1 ≤ win) (h2 : win ≤ 64) (w : World) :
    Calls Tryz.prog 127 #[.int .u64 (u s), .int .i64 win] w fun e w' => e = .returned (.pointer (some ⟨w.heap.size, 0, none⟩)) ∧ NewPost s win w w' := by
  go_enter Tryz.func127, Tryz.ntmps127
  go_wp2_with fail
  refine wp_over (fun W => Hid (W.heap.size = w.heap.size + 1) ∧ Hid (W.heap[w.heap.size]? = some (.cells (blank win).toArray 164 (0, 0))) ∧ Hid (Below w.heap.size w W)) ⟨by show _ = _; simp, by show _ = _; rw [blank, Array.toArray_toList]; exact heap_alloc_new _ _, (Below.refl _ _).alloc (Nat.le_refl _) _⟩ ?_
  rintro W ⟨HS, HC, HB⟩
  generalize hN : w.heap.size = N at *
  have hNN : Hid (w.heap.size = N) := hN
  clear hN
  go_region_law (first | (refine step_copy_splice rfl (.tmp 14) (.tmp 16) 278 278 rfl 23 Tryz.underlying278 (by kernel_rfl) _ _ _ _ _ _ rfl rfl N 0 (blank win) 164 hg1.out (tabCells s) (tab_min s) (fun _ => ⟨rfl, _, rfl, hsrc.out⟩) (tab_fits s win) (tabCells_one s) N w hb1.out (Nat.le_refl _) ?_; intro w2 hg2 hb2) | (go_simp; go_at_call 167; refine (table_any _ _).mono ?_; rintro e w1 ⟨rfl, hsz, hb, ht⟩; have hg1 := Lib.hid (new_tab HS.out HC.out HB.out hb).1; have hsrc := Lib.hid (tab_src ht); have hb1 := Lib.hid (new_tab HS.out HC.out HB.out hb).2; clear hb ht hsz))
  go_wp2
  go_ret
  refine ⟨by rw [hNN.out]; rfl, ?_⟩
  unfold NewPost
  rw [hNN.out]
  exact ⟨hg2.out, hb2⟩

theorem zero_cells : Tryz.zeroCells164 = ((List.replicate 256 (Value.int .u64 0) ++ List.replicate 64 (Value.int .u8 0)) ++ [Value.int .i64 0, Value.int .i64 0, Value.int .i64 0, Value.int .u64 0]).toArray := by kernel_rfl

theorem blank_of (A B : List Value) (win x : Value) (r : List Value) (C : Array Value) (h : C = ((A ++ B) ++ x :: r).toArray) (hA : A.length + B.length = 320) : (C.setIfInBounds 320 win).toList = (A ++ B) ++ win :: r := by
  subst h
  rw [List.setIfInBounds_toArray, List.set_append_right _ _ (by rw [List.length_append]; omega), List.length_append, hA]
  rfl

theorem blank_eq (win : Int) : ∃ A B : List Value, A.length = 256 ∧ B.length = 64 ∧ (∀ i, i < 64 → B[i]? = some (.int .u8 0)) ∧ blank win = (A ++ B) ++ [Value.int .i64 win, Value.int .i64 0, Value.int .i64 0, Value.int .u64 0] :=
  ⟨List.replicate 256 (Value.int .u64 0), List.replicate 64 (Value.int .u8 0), List.length_replicate, List.length_replicate, fun i hi => by rw [List.getElem?_replicate, if_pos hi],
   blank_of _ _ _ _ _ _ zero_cells (by rw [List.length_replicate, List.length_replicate])⟩

end Go.Proofs.YtmcbnhkcjhlbaaaGreatDoor.Ck
end
section
namespace Go.Proofs.YtmcbnhkcjhlbaaaGreatDoor.Ck
open Go.RowKit
open Roll (u)
open Go.Proofs.YtmcbnhkcjhlbaaaGreatDoor.Kit (Chg)

def BytesAt (w : World) (a : Option Addr) (bs : List Nat) : Prop :=
  (bs = [] ∨ ∃ b o, a = some ⟨b, o, none⟩ ∧ ∀ i, i < bs.length → w.cell? ⟨b, o + i, none⟩ = some (.int .u8 ((bs.getD i 0 : Nat) : Int))) ∧ (∀ x ∈ bs, x < 256) ∧ bs.length ≤ maxLen

theorem BytesAt.drop {w : World} {a : Option Addr} {bs : List Nat} (h : BytesAt w a bs) (b o k : Nat) (ha : a = some ⟨b, o, none⟩) : BytesAt w (some ⟨b, o + k, none⟩) (bs.drop k) := by
  obtain ⟨h1, h2, h3⟩ := h
  refine ⟨?_, fun x hx => h2 x (List.mem_of_mem_drop hx), by rw [List.length_drop]; omega⟩
  rcases h1 with rfl | ⟨b', o', e, hc⟩
  · exact .inl (by simp)
  · rw [ha] at e
    cases e
    refine .inr ⟨b, o + k, rfl, fun i hi => ?_⟩
    rw [List.length_drop] at hi
    have := hc (k + i) (by omega)
    rw [Nat.add_assoc, this, List.getD_eq_getElem?_getD, List.getD_eq_getElem?_getD, List.getElem?_drop]
theorem BytesAt.take {w : World} {a : Option Addr} {bs : List Nat} (h : BytesAt w a bs) (k : Nat) : BytesAt w a (bs.take k) := by
  obtain ⟨h1, h2, h3⟩ := h
  refine ⟨?_, fun x hx => h2 x (List.mem_of_mem_take hx), by rw [List.length_take]; omega⟩
  rcases h1 with rfl | ⟨b', o', e, hc⟩
  · exact .inl (by simp)
  · refine .inr ⟨b', o', e, fun i hi => ?_⟩
    rw [List.length_take] at hi
    rw [hc i (by omega), List.getD_eq_getElem?_getD, List.getD_eq_getElem?_getD, List.getElem?_take_of_lt (by omega)]
theorem BytesAt.some {w : World} {a : Option Addr} {bs : List Nat} (h : BytesAt w a bs) (hl : 0 < bs.length) : ∃ b o, a = Option.some ⟨b, o, none⟩ ∧ ∀ i, i < bs.length → w.cell? ⟨b, o + i, none⟩ = Option.some (.int .u8 ((bs.getD i 0 : Nat) : Int)) := by
  rcases h.1 with e | e
  · subst e; simp at hl
  · exact e
theorem BytesAt.getD_lt {w : World} {a : Option Addr} {bs : List Nat} (h : BytesAt w a bs) (k : Nat) (hk : k < bs.length) : bs.getD k 0 < 256 := by
  rw [List.getD_eq_getElem?_getD, List.getElem?_eq_getElem hk]; exact h.2.1 _ (List.getElem_mem hk)

def lastOf (bs : List Nat) (n : Nat) : List Nat := bs.drop (bs.length - n)

theorem len_any (b o : Nat) (n : Nat) (w : World) (h : w.cell? ⟨b, o + 322, none⟩ = some (.int .i64 n)) :
    Calls Tryz.prog 129 #[.pointer (some ⟨b, o, none⟩)] w fun e w' => e = .returned (.int .i64 n) ∧ w = w' := by
  go_enter Tryz.func129, Tryz.ntmps129
  go_wp2
  go_ret
  exact ⟨rfl, rfl⟩
theorem sum_any (b o : Nat) (x : BitVec 64) (w : World) (h : w.cell? ⟨b, o + 323, none⟩ = some (.int .u64 (u x))) :
    Calls Tryz.prog 131 #[.pointer (some ⟨b, o, none⟩)] w fun e w' => e = .returned (.int .u64 (u x)) ∧ w = w' := by
  go_enter Tryz.func131, Tryz.ntmps131
  go_wp2
  go_ret
  exact ⟨rfl, rfl⟩

end Go.Proofs.YtmcbnhkcjhlbaaaGreatDoor.Ck
end
section
namespace Go.Proofs.YtmcbnhkcjhlbaaaGreatDoor.Ck
open Go.RowKit
open Roll (u)
open Go.Proofs.YtmcbnhkcjhlbaaaGreatDoor.Kit (Chg)

def tz (x : BitVec 64) : Nat := Lib.ctz 64 x.toNat

theorem tz64_core (x k idx : Nat) (w : World) (hx0 : ((x : Int) == 0) = false)
    (key : IntKind.u64.wrap (bits BinOp.and IntKind.u64 (x : Int) (IntKind.u64.wrap (-(x : Int))) * 285870213051353865) / 288230376151711744 = (idx : Int))
    (hi : idx < 64) (hk : k < 64) (hcell : w.cell? ⟨4, idx, none⟩ = some (.int .u8 k)) :
    Calls Tryz.prog 169 #[.int .u64 x] w fun e w' => e = .returned (.int .i64 k) ∧ w = w' := by
  go_enter Tryz.func169, Tryz.ntmps169
  go_wp2_with (simp only [key])
  go_ret
  exact ⟨rfl, rfl⟩
theorem tz64_zero (w : World) : Calls Tryz.prog 169 #[.int .u64 0] w fun e w' => e = .returned (.int .i64 64) ∧ w = w' := by
  go_enter Tryz.func169, Tryz.ntmps169
  go_wp2
  go_ret
  exact ⟨rfl, rfl⟩
theorem tz64_any (x : BitVec 64) (w : World) (hT : TabAt 4 Lib.deBruijn64tab w) :
    Calls Tryz.prog 169 #[.int .u64 (u x)] w fun e w' => e = .returned (.int .i64 (tz x)) ∧ w = w' := by
  by_cases hx0 : x.toNat = 0
  · have e1 : tz x = 64 := by unfold tz Lib.ctz; rw [if_pos hx0]
    have e2 : u x = 0 := by unfold u; rw [hx0]; rfl
    rw [e1, e2]; exact tz64_zero w
  · obtain ⟨hlow, hk⟩ := Lib.lowest_bit 64 x.toNat hx0 x.isLt
    obtain ⟨hi, htab⟩ := Lib.deBruijn64_at _ hk
    have hcell := hT _ (show _ < Lib.deBruijn64tab.length from hi)
    rw [htab] at hcell
    exact tz64_core x.toNat (tz x) _ w (by rw [beq_eq_false_iff_ne]; omega) (tz64_key x.toNat _ x.isLt hx0 hlow) hi hk hcell
theorem zeros_any (x : BitVec 64) (w : World) (hT : TabAt 4 Lib.deBruijn64tab w) :
    Calls Tryz.prog 130 #[.int .u64 (u x)] w fun e w' => e = .returned (.int .i64 (tz x)) ∧ w = w' := by
  have H := Lib.hid hT
  clear hT
  go_enter Tryz.func130, Tryz.ntmps130
  go_wp2_with (go_at_call 169; refine (tz64_any x _ H.out).mono ?_; rintro e w' ⟨rfl, rfl⟩)
  go_ret
  exact ⟨rfl, rfl⟩
end Go.Proofs.YtmcbnhkcjhlbaaaGreatDoor.Ck
end
section
namespace Go.Proofs.YtmcbnhkcjhlbaaaGreatDoor.Ck
open Go.RowKit
open Roll (u)
open Go.Proofs.YtmcbnhkcjhlbaaaGreatDoor.Kit (Chg)

theorem tabAt_chg {w w' : World} {tab : List Nat} {M : Nat → Nat → Prop} (h : TabAt 4 tab w) (hc : Chg M w w') (hM : ∀ i, ¬ M 4 i) : TabAt 4 tab w' := fun j hj => hc.cell (h j hj) (hM j)
theorem tabAt_below {w w' : World} {tab : List Nat} {B : Nat} (h : TabAt 4 tab w) (hc : Below B w w') (hB : 4 < B) : TabAt 4 tab w' := fun j hj => (hc.cell (p := ⟨4, j, none⟩) hB).trans (h j hj)
theorem tabAt_size {w : World} (h : TabAt 4 Lib.deBruijn64tab w) : 4 < w.heap.size := World.block_lt_of_cell? w _ (h 0 (by decide))

theorem quiet {P : Program} {f : FuncId} {args : Array Value} {w : World} {n : Nat} {v : Value}
    (h : Calls P f args (w.drewN n) fun e w' => e = .returned v ∧ w.drewN n = w') : Calls P f args (w.drewN n) fun e w'' => e = .returned v ∧ ∃ m, w'' = w.drewN m :=
  h.mono fun _ _ ⟨he, hm⟩ => ⟨he, n, hm.symm⟩

theorem TabUpTo.cell {s : BitVec 64} {N : Nat} {w : World} (h : TabUpTo s N 256 w) (i : Nat) (hi : i < 256) : w.cell? ⟨N, i, none⟩ = some (.int .u64 (u (Roll.num s i))) := by
  obtain ⟨cs, h1, _, h3⟩ := h
  rw [cell_of_row _ _ _ _ _ _ h1, h3 i hi]

end Go.Proofs.YtmcbnhkcjhlbaaaGreatDoor.Ck
end
section
namespace Go.Proofs.YtmcbnhkcjhlbaaaGreatDoor.Ck
open Go.RowKit
open Roll (u)
open Go.Proofs.YtmcbnhkcjhlbaaaGreatDoor.Kit (Chg)
def Drawn (w1 wr : World) : Prop := ∃ n, wr = w1.drewN n
theorem Drawn.refl (w : World) : Drawn w w := ⟨0, rfl⟩
theorem Drawn.drewN {w1 wr : World} (h : Drawn w1 wr) (n : Nat) : Drawn w1 (wr.drewN n) := by
  obtain ⟨m, rfl⟩ := h
  exact ⟨m + n, World.drewN_drewN _ _ _⟩
theorem Drawn.drew {w1 wr : World} (h : Drawn w1 wr) : Drawn w1 wr.drew := h.drewN 1
theorem Drawn.heap {w1 wr : World} (h : Drawn w1 wr) : wr.heap = w1.heap := by obtain ⟨m, rfl⟩ := h; rfl
theorem Drawn.cell {w1 wr : World} (h : Drawn w1 wr) (a : Addr) : wr.cell? a = w1.cell? a := by obtain ⟨m, rfl⟩ := h; rfl
theorem Drawn.frozen {w1 wr : World} (h : Drawn w1 wr) (a : Addr) : wr.frozen? a = w1.frozen? a := by obtain ⟨m, rfl⟩ := h; rfl
theorem Drawn.chg {w1 wr : World} (h : Drawn w1 wr) (M : Nat → Nat → Prop) : Chg M w1 wr := by obtain ⟨m, rfl⟩ := h; exact (Chg.refl _ _).drewN m
theorem Drawn.below {w1 wr : World} (h : Drawn w1 wr) (B : Nat) : Below B w1 wr := by obtain ⟨m, rfl⟩ := h; exact below_drewN (Below.refl _ _) m
end Go.Proofs.YtmcbnhkcjhlbaaaGreatDoor.Ck
end
section
namespace Go.Proofs.YtmcbnhkcjhlbaaaGreatDoor.Ck
open Go.RowKit
open Roll (u)
open Go.Proofs.YtmcbnhkcjhlbaaaGreatDoor.Kit (Chg)

theorem lastOf_length (bs : List Nat) (n : Nat) : (lastOf bs n).length = min n bs.length := by unfold lastOf; rw [List.length_drop]; omega
theorem lastOf_nil (n : Nat) : lastOf [] n = [] := by unfold lastOf; simp
theorem lastOf_all (bs : List Nat) (n : Nat) (h : bs.length ≤ n) : lastOf bs n = bs := by unfold lastOf; rw [show bs.length - n = 0 by omega]; rfl
theorem pushed_last (bs : List Nat) (win x : Nat) (h : 1 ≤ win) : Roll.pushed win (lastOf bs win) x = lastOf (bs ++ [x]) win := by
  unfold Roll.pushed
  rw [lastOf_length]
  split
  · rename_i hl
    unfold lastOf
    rw [List.length_append, List.length_singleton, List.tail_drop, List.drop_append_of_le_length (by omega)]
    congr 2; omega
  · rename_i hl
    rw [lastOf_all bs win (by omega), lastOf_all _ win (by rw [List.length_append, List.length_singleton]; omega)]
theorem BytesAt.below {w w' : World} {a : Option Addr} {bs : List Nat} {B : Nat} (h : BytesAt w a bs) (hb : Below B w w') (hB : ∀ b o, a = Option.some ⟨b, o, none⟩ → b < B) : BytesAt w' a bs := by
  refine ⟨?_, h.2.1, h.2.2⟩
  rcases h.1 with e | ⟨b, o, e, hc⟩
  · exact .inl e
  · exact .inr ⟨b, o, e, fun i hi => (hb.cell (p := ⟨b, o + i, none⟩) (hB b o e)).trans (hc i hi)⟩
theorem BytesAt.later {w w' : World} {a : Option Addr} {bs : List Nat} (h : BytesAt w a bs) (hb : Below w.heap.size w w') : BytesAt w' a bs := by
  refine ⟨?_, h.2.1, h.2.2⟩
  rcases h.1 with e | ⟨b, o, e, hc⟩
  · exact .inl e
  · exact .inr ⟨b, o, e, fun i hi => (hb.cell (p := ⟨b, o + i, none⟩) (World.block_lt_of_cell? w _ (hc i hi))).trans (hc i hi)⟩

theorem RollAt.keep {w w' : World} {b o : Nat} {s : BitVec 64} {win : Nat} {bs : List Nat} {st : Nat} {M : Nat → Nat → Prop} (h : RollAt w b o s win bs st) (hc : Chg M w w') (hM : ∀ i, ¬ M b i) : RollAt w' b o s win bs st :=
  ⟨fun i hi => hc.cell (h.table i hi) (hM _), fun i hi => let ⟨v, hv, hcv⟩ := h.ring i hi; ⟨v, hv, hc.cell hcv (hM _)⟩, fun i hi => hc.cell (h.held i hi) (hM _), hc.cell h.window (hM _), hc.cell h.start (hM _), hc.cell h.length (hM _), hc.cell h.sum (hM _),
   fun i hi => by rw [hc.frozen h.window ⟨0, hM _⟩]; exact h.free i hi, h.st64, h.win1, h.win64, h.full, h.bytes⟩

theorem ownsRow_keep {w w' : World} {base e size n : Nat} {v : Value} {xs : List Value} {M : Nat → Nat → Prop} (h : w.ownsRow base e size v n xs) (hc : Chg M w w') (hM : ∀ g, base ≤ g → ∀ i, ¬ M g i) : w'.ownsRow base e size v n xs := by
  refine ⟨h.1, ?_⟩
  rcases h.2 with hn | ⟨g, cap, cur, rfl, hb, hg, r⟩
  · exact .inl hn
  · exact .inr ⟨g, cap, cur, rfl, hb, (hc.other g (Array.getElem?_eq_some_iff.1 hg).1 (hM g hb)).trans hg, r⟩

end Go.Proofs.YtmcbnhkcjhlbaaaGreatDoor.Ck
end
section
namespace Go.Proofs.YtmcbnhkcjhlbaaaGreatDoor.Ck
namespace Chk

structure Cut where
  mn : Nat
  mx : Nat
  win : Nat
  bits : Nat
  seed : BitVec 64

structure Cut.Ok (c : Cut) : Prop where
  win1 : 1 ≤ c.win
  win64 : c.win ≤ 64
  mn : c.win ≤ c.mn
  mx : c.mn ≤ c.mx
  most : c.mx ≤ 32768
  bits : c.bits ≤ 20

def mk (c : Cut) (ps : List Nat) : Bool := decide (c.win ≤ ps.length) && decide (c.bits ≤ tz (Roll.hash c.seed (lastOf ps c.win)))

def lastM (c : Cut) (ds : List Nat) : Nat → Int
  | 0 => -(c.mn : Int)
  | k + 1 => if mk c (ds.take (k + 1)) then ((k + 1 : Nat) : Int) else lastM c ds k

def prim (c : Cut) (ds : List Nat) (p : Nat) : Bool := mk c (ds.take p) && decide ((c.mn : Int) ≤ (p : Int) - lastM c ds (p - 1))

theorem lastM_bounds (c : Cut) (ds : List Nat) : ∀ k, -(c.mn : Int) ≤ lastM c ds k ∧ lastM c ds k ≤ k
  | 0 => by unfold lastM; omega
  | k + 1 => by
    have := lastM_bounds c ds k
    unfold lastM
    split <;> omega

theorem lastM_take (c : Cut) (ds : List Nat) (n : Nat) : ∀ k, k ≤ n → lastM c (ds.take n) k = lastM c ds k
  | 0, _ => rfl
  | k + 1, h => by
    unfold lastM
    rw [List.take_take, Nat.min_eq_left h, lastM_take c ds n k (by omega)]
theorem prim_take (c : Cut) (ds : List Nat) (n p : Nat) (h : p ≤ n) : prim c (ds.take n) p = prim c ds p := by
  unfold prim
  rw [List.take_take, Nat.min_eq_left h, lastM_take c ds n _ (by omega)]

def lastP (c : Cut) (ds : List Nat) : Nat → Nat
  | 0 => 0
  | k + 1 => if prim c ds (k + 1) then k + 1 else lastP c ds k
theorem lastP_le (c : Cut) (ds : List Nat) : ∀ k, lastP c ds k ≤ k
  | 0 => Nat.le_refl _
  | k + 1 => by
    have := lastP_le c ds k
    unfold lastP
    split <;> omega
/-! ### Cuts and chunks -/

def startS (c : Cut) (ds : List Nat) : Nat → Nat
  | 0 => 0
  | k + 1 => if prim c ds (k + 1) || decide (startS c ds k + c.mx = k + 1) then k + 1 else startS c ds k
def cutS (c : Cut) (ds : List Nat) (k : Nat) : Bool := prim c ds (k + 1) || decide (startS c ds k + c.mx = k + 1)
def cutsS (c : Cut) (ds : List Nat) : Nat → List Nat
  | 0 => []
  | k + 1 => cutsS c ds k ++ if cutS c ds k then [k + 1] else []
def chunksS (c : Cut) (ds : List Nat) : Nat → List (List Nat)
  | 0 => []
  | k + 1 => chunksS c ds k ++ if cutS c ds k then [(ds.take (k + 1)).drop (startS c ds k)] else []
def cuts (c : Cut) (ds : List Nat) : List Nat := cutsS c ds ds.length ++ if startS c ds ds.length < ds.length then [ds.length] else []
def chunks (c : Cut) (ds : List Nat) : List (List Nat) := chunksS c ds ds.length ++ if startS c ds ds.length < ds.length then [ds.drop (startS c ds ds.length)] else []

theorem startS_yes {c : Cut} {ds : List Nat} {k : Nat} (h : cutS c ds k = true) : startS c ds (k + 1) = k + 1 := by
  unfold cutS at h; rw [startS, if_pos h]
theorem startS_no {c : Cut} {ds : List Nat} {k : Nat} (h : cutS c ds k = false) : startS c ds (k + 1) = startS c ds k := by
  unfold cutS at h; rw [startS, if_neg (by simp [h])]
theorem cutsS_yes {c : Cut} {ds : List Nat} {k : Nat} (h : cutS c ds k = true) : cutsS c ds (k + 1) = cutsS c ds k ++ [k + 1] := by rw [cutsS, if_pos h]
theorem cutsS_no {c : Cut} {ds : List Nat} {k : Nat} (h : cutS c ds k = false) : cutsS c ds (k + 1) = cutsS c ds k := by rw [cutsS, if_neg (by simp [h]), List.append_nil]
theorem chunksS_yes {c : Cut} {ds : List Nat} {k : Nat} (h : cutS c ds k = true) : chunksS c ds (k + 1) = chunksS c ds k ++ [(ds.take (k + 1)).drop (startS c ds k)] := by rw [chunksS, if_pos h]
theorem chunksS_no {c : Cut} {ds : List Nat} {k : Nat} (h : cutS c ds k = false) : chunksS c ds (k + 1) = chunksS c ds k := by rw [chunksS, if_neg (by simp [h]), List.append_nil]

theorem startS_le (c : Cut) (ds : List Nat) : ∀ k, startS c ds k ≤ k
  | 0 => Nat.le_refl _
  | k + 1 => by
    have := startS_le c ds k
    unfold startS
    split <;> omega
theorem startS_mx (c : Cut) (ds : List Nat) (h : 1 ≤ c.mx) : ∀ k, k < startS c ds k + c.mx
  | 0 => by unfold startS; omega
  | k + 1 => by
    have h1 := startS_mx c ds h k
    by_cases hc : cutS c ds k = true
    · rw [startS_yes hc]; omega
    · have hc' : cutS c ds k = false := by simpa using hc
      rw [startS_no hc']
      unfold cutS at hc'
      rw [Bool.or_eq_false_iff, decide_eq_false_iff_not] at hc'
      omega
theorem cutsS_length (c : Cut) (ds : List Nat) : ∀ k, (cutsS c ds k).length ≤ k
  | 0 => Nat.le_refl _
  | k + 1 => by
    have := cutsS_length c ds k
    rw [cutsS, List.length_append]
    split <;> simp <;> omega
theorem cuts_last (c : Cut) (ds : List Nat) (k : Nat) (h : ds.length = k + 1) : cuts c ds = cutsS c ds k ++ [k + 1] ∧ chunks c ds = chunksS c ds k ++ [(ds.take (k + 1)).drop (startS c ds k)] := by
  have hs := startS_le c ds k
  have ht : ds.take (k + 1) = ds := List.take_of_length_le (by omega)
  unfold cuts chunks
  rw [h]
  by_cases hc : cutS c ds k = true
  · rw [cutsS_yes hc, chunksS_yes hc, startS_yes hc, if_neg (by omega), if_neg (by omega)]; simp
  · have hc' : cutS c ds k = false := by simpa using hc
    rw [cutsS_no hc', chunksS_no hc', startS_no hc', if_pos (by omega), if_pos (by omega), ht]
    exact ⟨rfl, rfl⟩
theorem cuts_nil (c : Cut) (ds : List Nat) (h : ds.length = 0) : cuts c ds = [] ∧ chunks c ds = [] := by
  unfold cuts chunks
  rw [h]
  simp [cutsS, chunksS]

def pieces (ds : List Nat) : Nat → List Nat → List (List Nat)
  | _, [] => []
  | a, p :: ps => (ds.take p).drop a :: pieces ds p ps
theorem pieces_snoc (ds : List Nat) (p : Nat) : ∀ (ps : List Nat) (a : Nat), pieces ds a (ps ++ [p]) = pieces ds a ps ++ [(ds.take p).drop ((a :: ps).getLast (by simp))]
  | [], a => rfl
  | q :: ps, a => by
    rw [List.cons_append, pieces, pieces_snoc ds p ps q]
    rfl
theorem cutsS_getLast (c : Cut) (ds : List Nat) : ∀ k, (0 :: cutsS c ds k).getLast (by simp) = startS c ds k
  | 0 => rfl
  | k + 1 => by
    by_cases hc : cutS c ds k = true
    · simp only [startS_yes hc, cutsS_yes hc, ← List.cons_append]
      exact List.getLast_concat
    · have hc' : cutS c ds k = false := by simpa using hc
      simp only [startS_no hc', cutsS_no hc']; exact cutsS_getLast c ds k
theorem chunksS_pieces (c : Cut) (ds : List Nat) : ∀ k, chunksS c ds k = pieces ds 0 (cutsS c ds k)
  | 0 => rfl
  | k + 1 => by
    by_cases hc : cutS c ds k = true
    · rw [chunksS_yes hc, cutsS_yes hc, pieces_snoc, cutsS_getLast, chunksS_pieces c ds k]
    · have hc' : cutS c ds k = false := by simpa using hc
      rw [chunksS_no hc', cutsS_no hc']; exact chunksS_pieces c ds k
theorem chunks_pieces (c : Cut) (ds : List Nat) : chunks c ds = pieces ds 0 (cuts c ds) := by
  unfold chunks cuts
  split
  · rw [pieces_snoc, cutsS_getLast, chunksS_pieces, List.take_length]
  · rw [List.append_nil, List.append_nil, chunksS_pieces]

/-! ### How far a byte reaches -/
end Chk
end Go.Proofs.YtmcbnhkcjhlbaaaGreatDoor.Ck
end
