/- Plain arithmetic of the rolling hash (chapter 14) on bit vectors of 64 bits: no program is named here. -/
import Derived.WalkKit
namespace Go.Proofs.YtfnhcjcahcacnaaDoor
namespace Roll
open Go.RowKit (Hid)

/-- The number that a cell or a slot of kind uint64 holds. -/
def u (x : BitVec 64) : Int := (x.toNat : Int)

theorem u_nonneg (x : BitVec 64) : 0 ≤ u x := Int.natCast_nonneg _
theorem u_lt (x : BitVec 64) : u x < 18446744073709551616 := by
  unfold u; have := x.isLt; omega
theorem u_inj {x y : BitVec 64} (h : u x = u y) : x = y := by
  unfold u at h; exact BitVec.eq_of_toNat_eq (by omega)
theorem u_beq (x y : BitVec 64) : (u x == u y) = (x == y) := by
  rw [Bool.eq_iff_iff]; simp only [beq_iff_eq]; exact ⟨u_inj, fun h => by rw [h]⟩
theorem wrap_add (x y : BitVec 64) : IntKind.u64.wrap (u x + u y) = u (x + y) := by
  rw [IntKind.wrap_u64]; unfold u; rw [BitVec.toNat_add]; omega
theorem wrap_mul (x : BitVec 64) (c : Nat) : IntKind.u64.wrap (u x * (c : Int)) = u (x * BitVec.ofNat 64 c) := by
  rw [IntKind.wrap_u64]; unfold u
  rw [BitVec.toNat_mul, BitVec.toNat_ofNat, Nat.mul_mod_mod, Int.natCast_emod, Int.natCast_mul]; rfl
theorem xor_u (x y : BitVec 64) : bits .xor .u64 (u x) (u y) = u (x ^^^ y) := by
  unfold u; rw [u64_xor_nat _ _ x.isLt y.isLt, BitVec.toNat_xor]
theorem or_u (x y : BitVec 64) : bits .or .u64 (u x) (u y) = u (x ||| y) := by
  unfold u; rw [u64_or_nat _ _ x.isLt y.isLt, BitVec.toNat_or]
theorem shr_u (x : BitVec 64) (k : Nat) : u x / ((2 ^ k : Nat) : Int) = u (x >>> k) := by
  unfold u; rw [BitVec.toNat_ushiftRight, Nat.shiftRight_eq_div_pow, Int.natCast_ediv]
theorem shl_u (x : BitVec 64) (k : Nat) : IntKind.u64.wrap (u x * ((2 ^ k : Nat) : Int)) = u (x <<< k) := by
  rw [IntKind.wrap_u64]; unfold u; rw [BitVec.toNat_shiftLeft, Nat.shiftLeft_eq, Int.natCast_emod, Int.natCast_mul]; rfl

theorem u_ofNat (n : Nat) : IntKind.u64.wrap (n : Int) = u (BitVec.ofNat 64 n) := by
  rw [IntKind.wrap_u64]; unfold u; rw [BitVec.toNat_ofNat, Int.natCast_emod]; rfl

/-- An argument of kind uint64 is such a number. -/
theorem u_of_wf {n : Int} (h : (Lit.int .u64 n).wf = true) : ∃ x : BitVec 64, n = u x := by
  have hb : 0 ≤ n ∧ n < 18446744073709551616 := by
    simp [Lit.wf, IntKind.min, IntKind.max, IntKind.bits, IntKind.signed] at h
    omega
  exact ⟨BitVec.ofNat 64 n.toNat, by unfold u; rw [BitVec.toNat_ofNat]; omega⟩

/-- The number of byte i in the table of a seed. -/
def mixA (z : BitVec 64) : BitVec 64 := (z ^^^ z >>> 30) * BitVec.ofNat 64 13787848793156543929
def mixB (z : BitVec 64) : BitVec 64 := (z ^^^ z >>> 27) * BitVec.ofNat 64 10723151780598845931
def mixC (z : BitVec 64) : BitVec 64 := z ^^^ z >>> 31
def start (s : BitVec 64) (i : Nat) : BitVec 64 := s + BitVec.ofNat 64 (i + 1) * BitVec.ofNat 64 11400714819323198485
def num (s : BitVec 64) (i : Nat) : BitVec 64 := mixC (mixB (mixA (start s i)))

theorem mixA_walk (z : BitVec 64) : IntKind.u64.wrap (u (z ^^^ z >>> 30) * 13787848793156543929) = u (mixA z) := wrap_mul (z ^^^ z >>> 30) 13787848793156543929
theorem mixB_walk (z : BitVec 64) : IntKind.u64.wrap (u (z ^^^ z >>> 27) * 10723151780598845931) = u (mixB z) := wrap_mul (z ^^^ z >>> 27) 10723151780598845931
theorem start_walk (k : BitVec 64) : IntKind.u64.wrap (u k * 11400714819323198485) = u (k * BitVec.ofNat 64 11400714819323198485) := wrap_mul k 11400714819323198485
theorem shr30 (z : BitVec 64) : u z / (1073741824 : Int) = u (z >>> 30) := shr_u z 30
theorem shr27 (z : BitVec 64) : u z / (134217728 : Int) = u (z >>> 27) := shr_u z 27
theorem shr31 (z : BitVec 64) : u z / (2147483648 : Int) = u (z >>> 31) := shr_u z 31

theorem and63 (i : Nat) (h : i < 18446744073709551616) : bits .and .u64 (i : Int) 63 = ((i % 64 : Nat) : Int) := by
  have := u64_and_nat i 63 h (by decide)
  rw [nat_mask6] at this
  exact this
theorem shl_rot (x : BitVec 64) (k : Nat) : IntKind.u64.wrap (u x * 2 ^ k) = u (x <<< k) := by
  have := shl_u x k
  rw [Int.natCast_pow] at this
  exact this
theorem shr_rot (x : BitVec 64) (k : Nat) : u x / 2 ^ k = u (x >>> k) := by
  have := shr_u x k
  rw [Int.natCast_pow] at this
  exact this
theorem rot_eq (x : BitVec 64) (i : Nat) : x <<< (i % 64) ||| x >>> (64 - i % 64) = x.rotateLeft i := rfl

/-- Rotation by one more bit. -/
theorem rot_zero (x : BitVec 64) : x.rotateLeft 0 = x := by
  apply BitVec.eq_of_getLsbD_eq; intro i hi; simp [hi]
theorem rot_rot (x : BitVec 64) (a b : Nat) : (x.rotateLeft a).rotateLeft b = x.rotateLeft (a + b) := by
  apply BitVec.eq_of_getLsbD_eq
  intro i hi
  simp only [BitVec.getLsbD_rotateLeft]
  have e : (a + b) % 64 = (a % 64 + b % 64) % 64 := Nat.add_mod a b 64
  have ha := Nat.mod_lt a (show 64 > 0 by decide)
  have hb := Nat.mod_lt b (show 64 > 0 by decide)
  rw [e]
  generalize a % 64 = m at *
  generalize b % 64 = n at *
  by_cases h1 : i < n
  · have h2 : 64 - n + i < 64 := by omega
    by_cases h3 : 64 - n + i < m
    · have h4 : (m + n) % 64 = m + n - 64 := by omega
      have h5 : i < (m + n) % 64 := by omega
      simp only [h1, h3, h5, cond_true, decide_true]
      congr 1; omega
    · by_cases h6 : m + n < 64
      · have h4 : (m + n) % 64 = m + n := by omega
        have h5 : i < (m + n) % 64 := by omega
        simp [h1, h3, h5, h2]
        congr 1; omega
      · have h4 : (m + n) % 64 = m + n - 64 := by omega
        have h5 : ¬ i < (m + n) % 64 := by omega
        simp [h1, h3, h5, h2, hi]
        congr 1; omega
  · by_cases h3 : i - n < m
    · by_cases h6 : m + n < 64
      · have h4 : (m + n) % 64 = m + n := by omega
        have h5 : i < (m + n) % 64 := by omega
        simp [h1, h3, h5, hi]
        congr 1; omega
      · have h4 : (m + n) % 64 = m + n - 64 := by omega
        have h5 : ¬ i < (m + n) % 64 := by omega
        simp [h1, h3, h5, hi]
        congr 1; omega
    · have h6 : m + n < 64 := by omega
      have h4 : (m + n) % 64 = m + n := by omega
      have h5 : ¬ i < (m + n) % 64 := by omega
      have h7 : i - n < 64 := by omega
      simp [h1, h3, h5, hi, h7]
      congr 1; omega
theorem rot_xor (x y : BitVec 64) (a : Nat) : (x ^^^ y).rotateLeft a = x.rotateLeft a ^^^ y.rotateLeft a := by
  apply BitVec.eq_of_getLsbD_eq
  intro i hi
  simp only [BitVec.getLsbD_rotateLeft, BitVec.getLsbD_xor]
  by_cases h : i < a % 64 <;> simp [h, hi]
theorem rot_64 (x : BitVec 64) : x.rotateLeft 64 = x := rot_zero x

/-- The hash of bytes. -/
def hash (s : BitVec 64) (bs : List Nat) : BitVec 64 := bs.foldl (fun h x => h.rotateLeft 1 ^^^ num s x) 0

theorem hash_nil (s : BitVec 64) : hash s [] = 0 := rfl
theorem hash_snoc (s : BitVec 64) (bs : List Nat) (x : Nat) : hash s (bs ++ [x]) = (hash s bs).rotateLeft 1 ^^^ num s x := by
  unfold hash; rw [List.foldl_append]; rfl
theorem zero_rot (a : Nat) : (0 : BitVec 64).rotateLeft a = 0 := by
  apply BitVec.eq_of_getLsbD_eq; intro i hi; simp [BitVec.getLsbD_rotateLeft]
theorem hash_from (s : BitVec 64) (bs : List Nat) : ∀ h : BitVec 64, bs.foldl (fun h x => h.rotateLeft 1 ^^^ num s x) h = h.rotateLeft bs.length ^^^ hash s bs := by
  induction bs with
  | nil => intro h; rw [hash_nil, List.foldl_nil, List.length_nil, rot_zero]; simp
  | cons x bs ih =>
    intro h
    have e : hash s (x :: bs) = ((0 : BitVec 64).rotateLeft 1 ^^^ num s x).rotateLeft bs.length ^^^ hash s bs := by
      unfold hash; rw [List.foldl_cons]; exact ih _
    rw [List.foldl_cons, ih, e, rot_xor, rot_xor, rot_rot, rot_rot, zero_rot, show (0 : BitVec 64) ^^^ (num s x).rotateLeft bs.length = (num s x).rotateLeft bs.length from BitVec.zero_xor, List.length_cons, Nat.add_comm 1, BitVec.xor_assoc]
theorem hash_append (s : BitVec 64) (as bs : List Nat) : hash s (as ++ bs) = (hash s as).rotateLeft bs.length ^^^ hash s bs := by
  rw [← hash_from]
  unfold hash
  rw [List.foldl_append]
theorem hash_one (s : BitVec 64) (x : Nat) : hash s [x] = num s x := by
  unfold hash; simp
/-- The oldest byte leaves the window. -/
theorem hash_tail (s : BitVec 64) (y : Nat) (bs : List Nat) : hash s (y :: bs) ^^^ (num s y).rotateLeft bs.length = hash s bs := by
  have h := hash_append s [y] bs
  rw [List.singleton_append] at h
  rw [h, hash_one, BitVec.xor_comm, ← BitVec.xor_assoc, BitVec.xor_self, BitVec.zero_xor]
/-- The bytes that a rolling hash contains after one more push. -/
def pushed (win : Nat) (bs : List Nat) (x : Nat) : List Nat := if bs.length = win then bs.tail ++ [x] else bs ++ [x]
theorem pushed_length (win : Nat) (bs : List Nat) (x : Nat) (h1 : 1 ≤ win) (h : bs.length ≤ win) : (pushed win bs x).length ≤ win := by
  unfold pushed; split <;> simp <;> omega

/-! ### The same facts as rewrite rules for a walk. Each stands under a hidden premise Q: a closed fact on all bit vectors would be taken by 'contradiction' for one that can be decided by trying them all. -/
section
variable (Q : Prop)
theorem f_start : ∀ k : BitVec 64, Hid Q → IntKind.u64.wrap (u k * 11400714819323198485) = u (k * BitVec.ofNat 64 11400714819323198485) := fun k _ => start_walk k
theorem f_mixA : ∀ z : BitVec 64, Hid Q → IntKind.u64.wrap (u (z ^^^ z >>> 30) * 13787848793156543929) = u (mixA z) := fun z _ => mixA_walk z
theorem f_mixB : ∀ z : BitVec 64, Hid Q → IntKind.u64.wrap (u (z ^^^ z >>> 27) * 10723151780598845931) = u (mixB z) := fun z _ => mixB_walk z
theorem f_shr30 : ∀ z : BitVec 64, Hid Q → u z / (1073741824 : Int) = u (z >>> 30) := fun z _ => shr30 z
theorem f_shr27 : ∀ z : BitVec 64, Hid Q → u z / (134217728 : Int) = u (z >>> 27) := fun z _ => shr27 z
theorem f_shr31 : ∀ z : BitVec 64, Hid Q → u z / (2147483648 : Int) = u (z >>> 31) := fun z _ => shr31 z
theorem f_xor : ∀ x y : BitVec 64, Hid Q → bits .xor .u64 (u x) (u y) = u (x ^^^ y) := fun x y _ => xor_u x y
theorem f_or : ∀ x y : BitVec 64, Hid Q → bits .or .u64 (u x) (u y) = u (x ||| y) := fun x y _ => or_u x y
theorem f_add : ∀ x y : BitVec 64, Hid Q → IntKind.u64.wrap (u x + u y) = u (x + y) := fun x y _ => wrap_add x y
theorem f_nonneg : ∀ x : BitVec 64, Hid Q → 0 ≤ u x := fun x _ => u_nonneg x
theorem f_shl (k : Nat) : ∀ x : BitVec 64, Hid Q → IntKind.u64.wrap (u x * 2 ^ k) = u (x <<< k) := fun x _ => shl_rot x k
theorem f_shr (k : Nat) : ∀ x : BitVec 64, Hid Q → u x / 2 ^ k = u (x >>> k) := fun x _ => shr_rot x k
theorem f_beq : ∀ x y : BitVec 64, Hid Q → (u x == u y) = (x == y) := fun x y _ => u_beq x y
end

theorem shl1 (x : BitVec 64) : IntKind.u64.wrap (u x * 2) = u (x <<< 1) := shl_rot x 1
theorem shr63 (x : BitVec 64) : u x / (9223372036854775808 : Int) = u (x >>> 63) := shr_u x 63
theorem f_shl1 (Q : Prop) : ∀ x : BitVec 64, Hid Q → IntKind.u64.wrap (u x * 2) = u (x <<< 1) := fun x _ => shl1 x
theorem f_shr63 (Q : Prop) : ∀ x : BitVec 64, Hid Q → u x / (9223372036854775808 : Int) = u (x >>> 63) := fun x _ => shr63 x
theorem rot_succ (x : BitVec 64) (k : Nat) : (x.rotateLeft k) <<< 1 ||| (x.rotateLeft k) >>> 63 = x.rotateLeft (k + 1) := by
  have h := rot_eq (x.rotateLeft k) 1
  rw [← rot_rot, ← h]
/-- What the specification's loop has gathered after k of n bytes. -/
theorem hash_step (s : BitVec 64) (bs : List Nat) (k : Nat) (h : k < bs.length) :
    (hash s (bs.take k)).rotateLeft (bs.length - k) ^^^ (num s (bs.getD k 0)).rotateLeft (bs.length - 1 - k) = (hash s (bs.take (k + 1))).rotateLeft (bs.length - (k + 1)) := by
  rw [List.take_succ_eq_append_getElem h, hash_snoc, rot_xor, rot_rot, List.getD_eq_getElem?_getD, List.getElem?_eq_getElem h, Option.getD_some]
  have e1 : 1 + (bs.length - (k + 1)) = bs.length - k := by omega
  have e2 : bs.length - 1 - k = bs.length - (k + 1) := by omega
  rw [e1, e2]
end Roll
end Go.Proofs.YtfnhcjcahcacnaaDoor
