/- SHA-256 in plain Lean (chapter 3) on bit vectors of 32 bits: no program is named here. -/
import Derived.WalkKit
import Derived.Laws.BitsLemmas
import Derived.Lib.Hide
namespace Go.Proofs.YtmnendoloankgaaDoor
set_option linter.unusedVariables false
set_option linter.unusedSimpArgs false
namespace Sha
open Go.RowKit (Hid)

/-- The number that a cell or a slot of kind uint32 holds. -/
def v (x : BitVec 32) : Int := (x.toNat : Int)
theorem v_nonneg (x : BitVec 32) : 0 ≤ v x := Int.natCast_nonneg _
theorem v_lt (x : BitVec 32) : v x < 4294967296 := by unfold v; have := x.isLt; omega
theorem v_inj {x y : BitVec 32} (h : v x = v y) : x = y := by unfold v at h; exact BitVec.eq_of_toNat_eq (by omega)
theorem wrap32 (n : Int) : IntKind.u32.wrap n = n % 4294967296 := IntKind.wrap_u32 n
theorem ofInt_v (x : BitVec 32) : BitVec.ofInt 32 (v x) = x := by
  apply BitVec.eq_of_toNat_eq
  unfold v
  rw [BitVec.toNat_ofInt]
  have := x.isLt
  omega
theorem v_wrap (n : Int) (x : BitVec 32) (h : n % 4294967296 = (x.toNat : Int)) : IntKind.u32.wrap n = v x := by rw [wrap32]; exact h
theorem add_v (x y : BitVec 32) : IntKind.u32.wrap (v x + v y) = v (x + y) := by
  rw [wrap32]; unfold v; rw [BitVec.toNat_add]; omega
theorem xor_v (x y : BitVec 32) : bits .xor .u32 (v x) (v y) = v (x ^^^ y) := by
  show IntKind.u32.wrap ((BitVec.ofInt 32 (v x) ^^^ BitVec.ofInt 32 (v y)).toNat : Int) = _
  rw [ofInt_v, ofInt_v, wrap32]; unfold v; have := (x ^^^ y).isLt; omega
theorem or_v (x y : BitVec 32) : bits .or .u32 (v x) (v y) = v (x ||| y) := by
  show IntKind.u32.wrap ((BitVec.ofInt 32 (v x) ||| BitVec.ofInt 32 (v y)).toNat : Int) = _
  rw [ofInt_v, ofInt_v, wrap32]; unfold v; have := (x ||| y).isLt; omega
theorem and_v (x y : BitVec 32) : bits .and .u32 (v x) (v y) = v (x &&& y) := by
  show IntKind.u32.wrap ((BitVec.ofInt 32 (v x) &&& BitVec.ofInt 32 (v y)).toNat : Int) = _
  rw [ofInt_v, ofInt_v, wrap32]; unfold v; have := (x &&& y).isLt; omega
theorem not_v (x : BitVec 32) : IntKind.u32.wrap (-(v x) - 1) = v (~~~ x) := by
  rw [wrap32]; unfold v; rw [BitVec.toNat_not]; have := x.isLt; omega
theorem shr_v (x : BitVec 32) (k : Nat) : v x / ((2 ^ k : Nat) : Int) = v (x >>> k) := by
  unfold v; rw [BitVec.toNat_ushiftRight, Nat.shiftRight_eq_div_pow, Int.natCast_ediv]
theorem shl_v (x : BitVec 32) (k : Nat) : IntKind.u32.wrap (v x * ((2 ^ k : Nat) : Int)) = v (x <<< k) := by
  rw [wrap32]; unfold v; rw [BitVec.toNat_shiftLeft, Nat.shiftLeft_eq, Int.natCast_emod, Int.natCast_mul]; rfl
theorem ofNat_v (n : Nat) (h : n < 4294967296) : v (BitVec.ofNat 32 n) = (n : Int) := by
  unfold v; rw [BitVec.toNat_ofNat]; omega
theorem byte_shl (n k c : Nat) (h : n < 256) (hc : 2 ^ k = c) (hk : k ≤ 24) : (n : Int) * (c : Int) = v (BitVec.ofNat 32 n <<< k) := by
  unfold v
  rw [BitVec.toNat_shiftLeft, BitVec.toNat_ofNat, Nat.shiftLeft_eq, Nat.mod_eq_of_lt (a := n) (by omega), hc]
  have h1 : c ≤ 16777216 := by rw [← hc]; exact Nat.pow_le_pow_right (by omega) hk
  have h2 : n * c ≤ 255 * 16777216 := Nat.mul_le_mul (by omega) h1
  rw [Nat.mod_eq_of_lt (by omega)]
  exact (Int.natCast_mul n c).symm
theorem rotl (x : BitVec 32) (k : Nat) : x.rotateLeft k = x <<< (k % 32) ||| x >>> (32 - k % 32) := rfl
theorem rotl_rotr (x : BitVec 32) (k : Nat) (h0 : 0 < k) (h : k < 32) : x <<< (32 - k) ||| x >>> k = x >>> k ||| x <<< (32 - k) := BitVec.or_comm ..

/-! ### The functions of the standard -/
/-- Rotation to the right by k, from 1 to 31. -/
def rot (x : BitVec 32) (k : Nat) : BitVec 32 := x >>> k ||| x <<< (32 - k)
def kList : List Nat := [
  0x428a2f98, 0x71374491, 0xb5c0fbcf, 0xe9b5dba5, 0x3956c25b, 0x59f111f1, 0x923f82a4, 0xab1c5ed5,
  0xd807aa98, 0x12835b01, 0x243185be, 0x550c7dc3, 0x72be5d74, 0x80deb1fe, 0x9bdc06a7, 0xc19bf174,
  0xe49b69c1, 0xefbe4786, 0x0fc19dc6, 0x240ca1cc, 0x2de92c6f, 0x4a7484aa, 0x5cb0a9dc, 0x76f988da,
  0x983e5152, 0xa831c66d, 0xb00327c8, 0xbf597fc7, 0xc6e00bf3, 0xd5a79147, 0x06ca6351, 0x14292967,
  0x27b70a85, 0x2e1b2138, 0x4d2c6dfc, 0x53380d13, 0x650a7354, 0x766a0abb, 0x81c2c92e, 0x92722c85,
  0xa2bfe8a1, 0xa81a664b, 0xc24b8b70, 0xc76c51a3, 0xd192e819, 0xd6990624, 0xf40e3585, 0x106aa070,
  0x19a4c116, 0x1e376c08, 0x2748774c, 0x34b0bcb5, 0x391c0cb3, 0x4ed8aa4a, 0x5b9cca4f, 0x682e6ff3,
  0x748f82ee, 0x78a5636f, 0x84c87814, 0x8cc70208, 0x90befffa, 0xa4506ceb, 0xbef9a3f7, 0xc67178f2]
theorem kList_length : kList.length = 64 := by decide
theorem kList_lt : ∀ t, t < 64 → kList.getD t 0 < 4294967296 := by decide
def kon (t : Nat) : BitVec 32 := BitVec.ofNat 32 (kList.getD t 0)
def sig0 (y : BitVec 32) : BitVec 32 := rot y 7 ^^^ rot y 18 ^^^ y >>> 3
def sig1 (x : BitVec 32) : BitVec 32 := rot x 17 ^^^ rot x 19 ^^^ x >>> 10
def Sig1 (e : BitVec 32) : BitVec 32 := rot e 6 ^^^ rot e 11 ^^^ rot e 25
def Sig0 (a : BitVec 32) : BitVec 32 := rot a 2 ^^^ rot a 13 ^^^ rot a 22
def ch (e f g : BitVec 32) : BitVec 32 := (e &&& f) ^^^ (~~~ e &&& g)
def maj (a b c : BitVec 32) : BitVec 32 := (a &&& b) ^^^ (a &&& c) ^^^ (b &&& c)
/-- Four bytes as a word. -/
def word (b0 b1 b2 b3 : Nat) : BitVec 32 := ((BitVec.ofNat 32 b0 <<< 24 ||| BitVec.ofNat 32 b1 <<< 16) ||| BitVec.ofNat 32 b2 <<< 8) ||| BitVec.ofNat 32 b3
theorem word_bits (z0 z1 z2 z3 : Nat) (h0 : z0 < 256) (h1 : z1 < 256) (h2 : z2 < 256) (h3 : z3 < 256) :
    bits .or .u32 (bits .or .u32 (bits .or .u32 ((z0 : Int) * (16777216 : Int)) ((z1 : Int) * (65536 : Int))) ((z2 : Int) * (256 : Int))) (z3 : Int) = v (word z0 z1 z2 z3) := by
  have s0 : (z0 : Int) * (16777216 : Int) = v (BitVec.ofNat 32 z0 <<< 24) := byte_shl z0 24 16777216 h0 rfl (by omega)
  have s1 : (z1 : Int) * (65536 : Int) = v (BitVec.ofNat 32 z1 <<< 16) := byte_shl z1 16 65536 h1 rfl (by omega)
  have s2 : (z2 : Int) * (256 : Int) = v (BitVec.ofNat 32 z2 <<< 8) := byte_shl z2 8 256 h2 rfl (by omega)
  rw [s0, s1, s2, or_v, or_v, ← ofNat_v z3 (by omega), or_v]
  rfl
def wordAt (b : List Nat) (t : Nat) : BitVec 32 := word (b.getD (4 * t) 0) (b.getD (4 * t + 1) 0) (b.getD (4 * t + 2) 0) (b.getD (4 * t + 3) 0)
/-- The word that comes behind the words l of the schedule of a block. -/
def next (b : List Nat) (l : List (BitVec 32)) (t : Nat) : BitVec 32 :=
  if t < 16 then wordAt b t else sig1 (l.getD (t - 2) 0) + l.getD (t - 7) 0 + sig0 (l.getD (t - 15) 0) + l.getD (t - 16) 0
def sched (b : List Nat) : Nat → List (BitVec 32)
  | 0 => []
  | n + 1 => sched b n ++ [next b (sched b n) n]
theorem sched_length (b : List Nat) : ∀ n, (sched b n).length = n
  | 0 => rfl
  | n + 1 => by rw [sched, List.length_append, sched_length b n]; rfl
def wAt (b : List Nat) (t : Nat) : BitVec 32 := (sched b 64).getD t 0
theorem sched_getD (b : List Nat) (t n : Nat) (h : t < n) : (sched b n).getD t 0 = next b (sched b t) t := by
  induction n with
  | zero => omega
  | succ n ih =>
    rw [sched, List.getD_eq_getElem?_getD]
    by_cases e : t < n
    · rw [List.getElem?_append_left (by rw [sched_length]; exact e), ← List.getD_eq_getElem?_getD, ih e]
    · have : t = n := by omega
      subst this
      rw [List.getElem?_append_right (by rw [sched_length]; exact Nat.le_refl _), sched_length]; simp

structure St where
  a : BitVec 32
  b : BitVec 32
  c : BitVec 32
  d : BitVec 32
  e : BitVec 32
  f : BitVec 32
  g : BitVec 32
  h : BitVec 32
def St.list (s : St) : List (BitVec 32) := [s.a, s.b, s.c, s.d, s.e, s.f, s.g, s.h]
def t1 (s : St) (k w : BitVec 32) : BitVec 32 := s.h + Sig1 s.e + ch s.e s.f s.g + k + w
def t2 (s : St) : BitVec 32 := Sig0 s.a + maj s.a s.b s.c
def rnd (s : St) (k w : BitVec 32) : St := ⟨t1 s k w + t2 s, s.a, s.b, s.c, s.d + t1 s k w, s.e, s.f, s.g⟩
def rounds (b : List Nat) (s : St) : Nat → St
  | 0 => s
  | n + 1 => rnd (rounds b s n) (kon n) (wAt b n)
def addSt (s t : St) : St := ⟨s.a + t.a, s.b + t.b, s.c + t.c, s.d + t.d, s.e + t.e, s.f + t.f, s.g + t.g, s.h + t.h⟩
theorem addSt_comm (s t : St) : addSt s t = addSt t s := by unfold addSt; simp only [BitVec.add_comm]
/-- The words behind a block. -/
def comp (s : St) (b : List Nat) : St := addSt s (rounds b s 64)
def initL : List Nat := [0x6a09e667, 0xbb67ae85, 0x3c6ef372, 0xa54ff53a, 0x510e527f, 0x9b05688c, 0x1f83d9ab, 0x5be0cd19]
def init : St := ⟨BitVec.ofNat 32 0x6a09e667, BitVec.ofNat 32 0xbb67ae85, BitVec.ofNat 32 0x3c6ef372, BitVec.ofNat 32 0xa54ff53a, BitVec.ofNat 32 0x510e527f, BitVec.ofNat 32 0x9b05688c, BitVec.ofNat 32 0x1f83d9ab, BitVec.ofNat 32 0x5be0cd19⟩
/-- The words behind the whole blocks of the first k bytes. -/
def hs (ps : List Nat) : Nat → St
  | 0 => init
  | k + 1 => if (k + 1) % 64 = 0 then comp (hs ps k) ((ps.take (k + 1)).drop (k + 1 - 64)) else hs ps k
theorem hs_stay (ps : List Nat) (k : Nat) : ∀ j, k % 64 + j < 64 → hs ps (k + j) = hs ps k
  | 0, _ => rfl
  | j + 1, h => by
    have ih := hs_stay ps k j (by omega)
    rw [← Nat.add_assoc, hs, if_neg (by omega), ih]
theorem hs_block (ps : List Nat) (k : Nat) (h : k % 64 = 0) : hs ps (k + 64) = comp (hs ps k) ((ps.take (k + 64)).drop k) := by
  have e : hs ps (k + 63) = hs ps k := hs_stay ps k 63 (by omega)
  show hs ps (k + 63 + 1) = _
  rw [hs, if_pos (by omega), e]
  congr 2
theorem hs_take (ps : List Nat) (n : Nat) : ∀ k, k ≤ n → hs (ps.take n) k = hs ps k
  | 0, _ => rfl
  | k + 1, h => by rw [hs, hs, hs_take ps n k (by omega), List.take_take, Nat.min_eq_left h]
theorem hs_append (ps qs : List Nat) (k : Nat) (h : k ≤ ps.length) : hs (ps ++ qs) k = hs ps k := by
  have := hs_take (ps ++ qs) ps.length k h
  rw [List.take_left] at this
  exact this.symm
/-- The bytes of a word, the most significant one first. -/
def bytes4 (x : BitVec 32) : List Nat := [x.toNat / 16777216 % 256, x.toNat / 65536 % 256, x.toNat / 256 % 256, x.toNat % 256]
def digest (s : St) : List Nat := s.list.flatMap bytes4
theorem bytes4_lt (x : BitVec 32) : ∀ y ∈ bytes4 x, y < 256 := by
  intro y hy
  simp only [bytes4, List.mem_cons, List.not_mem_nil, or_false] at hy
  omega
theorem digest_length (s : St) : (digest s).length = 32 := rfl
theorem digest_lt (s : St) : ∀ y ∈ digest s, y < 256 := by
  intro y hy
  unfold digest at hy
  rw [List.mem_flatMap] at hy
  obtain ⟨x, _, hx⟩ := hy
  exact bytes4_lt x y hx
/-- The eight bytes of a number of bits. -/
def be8 (n : Nat) : List Nat := (List.range 8).map fun i => n / 256 ^ (7 - i) % 256
def zeros (n : Nat) : Nat := (119 - n % 64) % 64
def pad (ps : List Nat) : List Nat := ps ++ 128 :: (List.replicate (zeros ps.length) 0 ++ be8 (8 * ps.length))
theorem be8_length (n : Nat) : (be8 n).length = 8 := by simp [be8]
theorem be8_lt (n : Nat) : ∀ y ∈ be8 n, y < 256 := by
  intro y hy
  simp only [be8, List.mem_map] at hy
  obtain ⟨i, _, rfl⟩ := hy
  exact Nat.mod_lt _ (by decide)
theorem pad_length (ps : List Nat) : (pad ps).length % 64 = 0 := by
  unfold pad zeros
  rw [List.length_append, List.length_cons, List.length_append, List.length_replicate, be8_length]
  omega
/-- The sum of bytes. -/
def sum (ps : List Nat) : List Nat := digest (hs (pad ps) (pad ps).length)
theorem sum_length (ps : List Nat) : (sum ps).length = 32 := digest_length _
theorem sum_lt (ps : List Nat) : ∀ y ∈ sum ps, y < 256 := digest_lt _
/-! ### Rules for walks, under a hidden premise -/
section
variable (Q : Prop)
theorem f_add : ∀ x y : BitVec 32, Hid Q → IntKind.u32.wrap (v x + v y) = v (x + y) := fun x y _ => add_v x y
theorem f_xor : ∀ x y : BitVec 32, Hid Q → bits .xor .u32 (v x) (v y) = v (x ^^^ y) := fun x y _ => xor_v x y
theorem f_or : ∀ x y : BitVec 32, Hid Q → bits .or .u32 (v x) (v y) = v (x ||| y) := fun x y _ => or_v x y
theorem f_and : ∀ x y : BitVec 32, Hid Q → bits .and .u32 (v x) (v y) = v (x &&& y) := fun x y _ => and_v x y
theorem f_not : ∀ x : BitVec 32, Hid Q → bits .xor .u32 (if IntKind.u32.signed = true then -1 else IntKind.u32.max) (v x) = v (~~~ x) := fun x _ => by
  have e : (if IntKind.u32.signed = true then (-1 : Int) else IntKind.u32.max) = v (BitVec.allOnes 32) := by decide
  rw [e, xor_v]
  exact congrArg v (by rw [BitVec.xor_comm, BitVec.xor_allOnes])
theorem f_wrap : ∀ x : BitVec 32, Hid Q → IntKind.u32.wrap (v x) = v x := fun x _ => by rw [wrap32]; unfold v; have := x.isLt; omega
theorem f_shr10 : ∀ x : BitVec 32, Hid Q → v x / (1024 : Int) = v (x >>> 10) := fun x _ => shr_v x 10
theorem f_shr3 : ∀ x : BitVec 32, Hid Q → v x / (8 : Int) = v (x >>> 3) := fun x _ => shr_v x 3
theorem f_nonneg : ∀ x : BitVec 32, Hid Q → 0 ≤ v x := fun x _ => v_nonneg x
theorem f_shr (k : Nat) : ∀ x : BitVec 32, Hid Q → v x / 2 ^ k = v (x >>> k) := fun x _ => by
  have := shr_v x k
  rw [Int.natCast_pow] at this
  exact this
theorem f_shl (k : Nat) : ∀ x : BitVec 32, Hid Q → IntKind.u32.wrap (v x * 2 ^ k) = v (x <<< k) := fun x _ => by
  have := shl_v x k
  rw [Int.natCast_pow] at this
  exact this
end
end Sha
end Go.Proofs.YtmnendoloankgaaDoor
