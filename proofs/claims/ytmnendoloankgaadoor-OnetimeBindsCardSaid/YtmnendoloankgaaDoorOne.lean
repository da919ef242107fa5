/- One-time signatures in plain Lean (chapter 12): no program is named here. -/
import Derived.Test.YtmnendoloankgaaDoorPad
namespace Go.Proofs.YtmnendoloankgaaDoor
set_option linter.unusedVariables false
set_option linter.unusedSimpArgs false
namespace One

/-- The encoding of a number, base 128. -/
def num (n : Nat) : List Nat := if h : n < 128 then [n] else (n % 128 + 128) :: num (n / 128)
termination_by n
decreasing_by omega
theorem num_small {n : Nat} (h : n < 128) : num n = [n] := by rw [num, dif_pos h]
theorem num_big {n : Nat} (h : 128 ≤ n) : num n = (n % 128 + 128) :: num (n / 128) := by rw [num, dif_neg (by omega)]
theorem num_lt (n : Nat) : ∀ x ∈ num n, x < 256 := by
  induction n using Nat.strongRecOn with
  | ind n ih =>
    by_cases h : n < 128
    · rw [num_small h]; intro x hx; have := List.mem_singleton.1 hx; omega
    · rw [num_big (by omega)]
      intro x hx
      rcases List.mem_cons.1 hx with e | hx
      · omega
      · exact ih _ (by omega) x hx
theorem num_inj (a : Nat) : ∀ (b : Nat) (s t : List Nat), num a ++ s = num b ++ t → a = b ∧ s = t := by
  induction a using Nat.strongRecOn with
  | ind a ih =>
    intro b s t h
    by_cases ha : a < 128
    · rw [num_small ha] at h
      by_cases hb : b < 128
      · rw [num_small hb] at h
        simp at h
        exact h
      · rw [num_big (by omega)] at h
        simp at h
        omega
    · rw [num_big (by omega)] at h
      by_cases hb : b < 128
      · rw [num_small hb] at h
        simp at h
        omega
      · rw [num_big (by omega) (n := b)] at h
        simp only [List.cons_append, List.cons.injEq] at h
        obtain ⟨h1, h2⟩ := h
        obtain ⟨h3, h4⟩ := ih (a / 128) (by omega) _ _ _ h2
        exact ⟨by omega, h4⟩
theorem num_len {n : Nat} (h : n < 16384) : (num n).length ≤ 2 := by
  by_cases h1 : n < 128
  · rw [num_small h1]; simp
  · rw [num_big (by omega), num_small (by omega)]; simp

/-- The digits of a number to the base 2 ^ B, the most significant one first. -/
def dig (B : Nat) : Nat → Nat → List Nat
  | 0, _ => []
  | c + 1, s => s / 2 ^ (B * c) % 2 ^ B :: dig B c s
theorem dig_length (B : Nat) : ∀ c s, (dig B c s).length = c
  | 0, _ => rfl
  | c + 1, s => by rw [dig, List.length_cons, dig_length B c s]
theorem dig_lt (B : Nat) : ∀ c s, ∀ x ∈ dig B c s, x < 2 ^ B
  | 0, _ => by intro x hx; cases hx
  | c + 1, s => by
    intro x hx
    rw [dig] at hx
    rcases List.mem_cons.1 hx with e | hx
    · rw [e]; exact Nat.mod_lt _ (Nat.two_pow_pos B)
    · exact dig_lt B c s x hx
theorem mod_pow_dig (B c s : Nat) : s % 2 ^ (B * (c + 1)) = s % 2 ^ (B * c) + 2 ^ (B * c) * (s / 2 ^ (B * c) % 2 ^ B) := by
  rw [Nat.mul_add, Nat.mul_one, Nat.pow_add, Nat.mod_mul]
theorem dig_le (B : Nat) : ∀ c s t, (∀ i, (dig B c s).getD i 0 ≤ (dig B c t).getD i 0) → s % 2 ^ (B * c) ≤ t % 2 ^ (B * c)
  | 0, s, t, _ => by simp [Nat.mod_one]
  | c + 1, s, t, h => by
    rw [mod_pow_dig, mod_pow_dig B c t]
    have h0 := h 0
    simp only [dig, List.getD_cons_zero] at h0
    have h1 := dig_le B c s t (fun i => by have := h (i + 1); simpa only [dig, List.getD_cons_succ] using this)
    exact Nat.add_le_add h1 (Nat.mul_le_mul_left _ h0)
theorem dig_inj (B c s t : Nat) (hs : s < 2 ^ (B * c)) (ht : t < 2 ^ (B * c)) (h : dig B c s = dig B c t) : s = t := by
  have h1 := dig_le B c s t (fun i => by rw [h]; exact Nat.le_refl _)
  have h2 := dig_le B c t s (fun i => by rw [h]; exact Nat.le_refl _)
  rw [Nat.mod_eq_of_lt hs, Nat.mod_eq_of_lt ht] at h1 h2
  omega

def last (B : Nat) : Nat := 2 ^ B - 1
def mainD (B : Nat) (ds : List Nat) : List Nat := ds.flatMap (dig B (8 / B))
def csum (B : Nat) (l : List Nat) : Nat := (l.map fun d => last B - d).sum
/-- How many digits the checksum has, if it is at most g. -/
def cnt (B g : Nat) : Nat := g.log2 / B + 1
def great (B n : Nat) : Nat := 8 * n / B * last B
def digits (B : Nat) (ds : List Nat) : List Nat := mainD B ds ++ dig B (cnt B (great B ds.length)) (csum B (mainD B ds))
def count (B n : Nat) : Nat := 8 * n / B + cnt B (great B n)

theorem last_lt (B : Nat) : last B < 2 ^ B := by unfold last; have := Nat.two_pow_pos B; omega
theorem mainD_lt (B : Nat) (ds : List Nat) : ∀ x ∈ mainD B ds, x < 2 ^ B := by
  intro x hx
  obtain ⟨y, _, h⟩ := List.mem_flatMap.1 hx
  exact dig_lt _ _ _ x h
theorem digits_lt (B : Nat) (ds : List Nat) : ∀ x ∈ digits B ds, x < 2 ^ B := by
  intro x hx
  rcases List.mem_append.1 hx with h | h
  · exact mainD_lt B ds x h
  · exact dig_lt _ _ _ x h
theorem mainD_len (B : Nat) (ds : List Nat) : (mainD B ds).length = ds.length * (8 / B) := by
  induction ds with
  | nil => simp [mainD]
  | cons d ds ih =>
    unfold mainD at ih ⊢
    rw [List.flatMap_cons, List.length_append, dig_length, ih, List.length_cons, Nat.add_mul, Nat.one_mul, Nat.add_comm]
/-- The bits of a digit. -/
def Bits (B : Nat) : Prop := B = 1 ∨ B = 2 ∨ B = 4 ∨ B = 8
theorem mainD_length {B : Nat} (hB : Bits B) (ds : List Nat) : (mainD B ds).length = 8 * ds.length / B := by
  rw [mainD_len]
  rcases hB with rfl | rfl | rfl | rfl <;> omega
theorem digits_length {B : Nat} (hB : Bits B) (ds : List Nat) : (digits B ds).length = count B ds.length := by
  unfold digits count
  rw [List.length_append, mainD_length hB, dig_length]
theorem cnt_lt {B g : Nat} (hB : 0 < B) (hg : g ≠ 0) (k : Nat) : k < cnt B g ↔ 2 ^ (B * k) ≤ g := by
  unfold cnt
  rw [← Nat.le_log2 hg, Nat.lt_succ_iff, Nat.le_div_iff_mul_le hB, Nat.mul_comm]
theorem cnt_fit {B g : Nat} (hB : 0 < B) (hg : g ≠ 0) : g < 2 ^ (B * cnt B g) := by
  have h := cnt_lt hB hg (cnt B g)
  have h2 : ¬ 2 ^ (B * cnt B g) ≤ g := fun e => Nat.lt_irrefl _ (h.2 e)
  omega
theorem csum_le (B : Nat) (l : List Nat) : csum B l ≤ l.length * last B := by
  induction l with
  | nil => simp [csum]
  | cons d l ih =>
    unfold csum at ih ⊢
    rw [List.map_cons, List.sum_cons, List.length_cons, Nat.add_mul, Nat.one_mul]
    omega
theorem csum_snoc (B : Nat) (l : List Nat) (d : Nat) : csum B (l ++ [d]) = csum B l + (last B - d) := by
  simp [csum]
theorem csum_anti (B : Nat) : ∀ l m : List Nat, l.length = m.length → (∀ x ∈ m, x ≤ last B) → (∀ i, l.getD i 0 ≤ m.getD i 0) → csum B m ≤ csum B l ∧ (csum B m = csum B l → l = m)
  | [], [], _, _, _ => ⟨Nat.le_refl _, fun _ => rfl⟩
  | [], _ :: _, h, _, _ => by simp at h
  | _ :: _, [], h, _, _ => by simp at h
  | a :: l, b :: m, h, hm, hle => by
    have h0 := hle 0
    simp only [List.getD_cons_zero] at h0
    obtain ⟨h1, h2⟩ := csum_anti B l m (by simpa using h) (fun x hx => hm x (List.mem_cons_of_mem _ hx)) (fun i => by have := hle (i + 1); simpa only [List.getD_cons_succ] using this)
    have hb := hm b (List.mem_cons_self ..)
    have e1 : csum B (a :: l) = (last B - a) + csum B l := by simp [csum]
    have e2 : csum B (b :: m) = (last B - b) + csum B m := by simp [csum]
    rw [e1, e2]
    refine ⟨by omega, fun e => ?_⟩
    rw [h2 (by omega), show a = b by omega]
theorem mainD_inj {B : Nat} (hB : Bits B) : ∀ a b : List Nat, a.length = b.length → (∀ x ∈ a, x < 256) → (∀ x ∈ b, x < 256) → mainD B a = mainD B b → a = b
  | [], [], _, _, _, _ => rfl
  | [], _ :: _, h, _, _, _ => by simp at h
  | _ :: _, [], h, _, _, _ => by simp at h
  | x :: a, y :: b, h, ha, hb, e => by
    unfold mainD at e
    rw [List.flatMap_cons, List.flatMap_cons] at e
    obtain ⟨e1, e2⟩ := List.append_inj e (by rw [dig_length, dig_length])
    have hx := ha x (List.mem_cons_self ..)
    have hy := hb y (List.mem_cons_self ..)
    have h8 : 2 ^ (B * (8 / B)) = 256 := by rcases hB with rfl | rfl | rfl | rfl <;> rfl
    rw [dig_inj B (8 / B) x y (by omega) (by omega) e1, mainD_inj hB a b (by simpa using h) (fun z hz => ha z (List.mem_cons_of_mem _ hz)) (fun z hz => hb z (List.mem_cons_of_mem _ hz)) e2]
theorem Bits.pos {B : Nat} (hB : Bits B) : 0 < B := by rcases hB with rfl | rfl | rfl | rfl <;> decide
theorem great_ne {B n : Nat} (hB : Bits B) (hn : 0 < n) : great B n ≠ 0 := by
  unfold great last
  rcases hB with rfl | rfl | rfl | rfl <;> omega
/-- No digest covers another one. -/
theorem covered {B : Nat} (hB : Bits B) (a b : List Nat) (hl : a.length = b.length) (h0 : 0 < a.length) (ha : ∀ x ∈ a, x < 256) (hb : ∀ x ∈ b, x < 256)
    (h : ∀ i, (digits B a).getD i 0 ≤ (digits B b).getD i 0) : a = b := by
  have hm : (mainD B a).length = (mainD B b).length := by rw [mainD_length hB, mainD_length hB, hl]
  have h1 : ∀ i, (mainD B a).getD i 0 ≤ (mainD B b).getD i 0 := fun i => by
    by_cases hi : i < (mainD B a).length
    · have := h i
      unfold digits at this
      rwa [getD_app_l _ _ _ hi, getD_app_l _ _ _ (by omega)] at this
    · rw [List.getD_eq_getElem?_getD, List.getElem?_eq_none (by omega)]
      exact Nat.zero_le _
  have h2 : ∀ i, (dig B (cnt B (great B a.length)) (csum B (mainD B a))).getD i 0 ≤ (dig B (cnt B (great B a.length)) (csum B (mainD B b))).getD i 0 := fun i => by
    have := h ((mainD B a).length + i)
    unfold digits at this
    rw [getD_app_r, hm, getD_app_r, ← hl] at this
    exact this
  have h3 := dig_le _ _ _ _ h2
  have hf := cnt_fit hB.pos (great_ne hB h0)
  have hla : csum B (mainD B a) ≤ great B a.length := by
    have := csum_le B (mainD B a)
    rwa [mainD_length hB] at this
  have hlb : csum B (mainD B b) ≤ great B a.length := by
    have := csum_le B (mainD B b)
    rwa [mainD_length hB, ← hl] at this
  rw [Nat.mod_eq_of_lt (by omega), Nat.mod_eq_of_lt (by omega)] at h3
  obtain ⟨h4, h5⟩ := csum_anti B _ _ hm (fun x hx => by have := mainD_lt B b x hx; unfold last; omega) h1
  exact mainD_inj hB a b hl ha hb (h5 (by omega))

/-- The key of a tag, filled up. -/
def key64 (ks : List Nat) : List Nat := ks ++ List.replicate (64 - ks.length) 0
theorem key64_length {ks : List Nat} (h : ks.length ≤ 64) : (key64 ks).length = 64 := by
  unfold key64; rw [List.length_append, List.length_replicate]; omega
theorem key64_lt {ks : List Nat} (h : ∀ x ∈ ks, x < 256) : ∀ x ∈ key64 ks, x < 256 := by
  intro x hx
  rcases List.mem_append.1 hx with h1 | h1
  · exact h x h1
  · have := List.eq_of_mem_replicate h1; omega
def inner (ks ds : List Nat) : List Nat := xorL (key64 ks) 54 ++ ds
def outer (ks ds : List Nat) : List Nat := xorL (key64 ks) 92 ++ Sha.sum (inner ks ds)
/-- The tag of bytes under a key of at most 64 bytes. -/
def tag (ks ds : List Nat) : List Nat := Sha.sum (outer ks ds)
def secretB : List Nat := [115, 101, 99, 114, 101, 116]
def chainB : List Nat := [99, 104, 97, 105, 110]
def publicB : List Nat := [112, 117, 98, 108, 105, 99]
def secretIn (i : Nat) : List Nat := secretB ++ num i
def secret (seed : List Nat) (i : Nat) : List Nat := tag seed (secretIn i)
def input (i j : Nat) (x : List Nat) : List Nat := chainB ++ (num i ++ (num j ++ x))
/-- n steps of the chain i from the step j on. -/
def chain (i : Nat) : Nat → Nat → List Nat → List Nat
  | _, 0, x => x
  | j, n + 1, x => chain i (j + 1) n (Sha.sum (input i j x))
theorem chain_add (i : Nat) : ∀ a j b x, chain i j (a + b) x = chain i (j + a) b (chain i j a x)
  | 0, j, b, x => by rw [Nat.zero_add]; rfl
  | a + 1, j, b, x => by
    rw [show a + 1 + b = (a + b) + 1 by omega, chain, chain_add i a (j + 1) b, chain, show j + 1 + a = j + (a + 1) by omega]
theorem chain_succ (i j n : Nat) (x : List Nat) : chain i j (n + 1) x = Sha.sum (input i (j + n) (chain i j n x)) := by
  rw [chain_add i n j 1 x]; rfl
theorem chain_length (i : Nat) : ∀ n j x, x.length = 32 → (chain i j n x).length = 32
  | 0, _, _, h => h
  | n + 1, j, x, _ => chain_length i n (j + 1) _ (Sha.sum_length _)
theorem chain_lt (i : Nat) : ∀ n j x, (∀ y ∈ x, y < 256) → ∀ y ∈ chain i j n x, y < 256
  | 0, _, _, h => h
  | n + 1, j, x, _ => chain_lt i n (j + 1) _ (Sha.sum_lt _)
theorem secret_length (seed : List Nat) (i : Nat) : (secret seed i).length = 32 := Sha.sum_length _
theorem secret_lt (seed : List Nat) (i : Nat) : ∀ y ∈ secret seed i, y < 256 := Sha.sum_lt _
/-- Two chains that end alike and begin differently meet in one sum. -/
theorem merge (i j : Nat) (x y : List Nat) : ∀ n, chain i j n x = chain i j n y → x ≠ y → ∃ k, k < n ∧ chain i j k x ≠ chain i j k y ∧ Sha.sum (input i (j + k) (chain i j k x)) = Sha.sum (input i (j + k) (chain i j k y))
  | 0, h, hn => absurd h hn
  | n + 1, h, hn => by
    rw [chain_succ, chain_succ] at h
    by_cases e : chain i j n x = chain i j n y
    · obtain ⟨k, hk, r⟩ := merge i j x y n e hn
      exact ⟨k, by omega, r⟩
    · exact ⟨n, by omega, e, h⟩
theorem input_inj {i j k : Nat} {x y : List Nat} (h : input i j x = input i k y) : j = k ∧ x = y := by
  unfold input at h
  have h1 := List.append_cancel_left (List.append_cancel_left h)
  exact num_inj _ _ _ _ h1
theorem input_len {i j : Nat} {x : List Nat} (hi : i < 16384) (hj : j < 16384) (hx : x.length = 32) : (input i j x).length ≤ 41 := by
  unfold input
  have h1 := num_len hi
  have h2 := num_len hj
  simp only [List.length_append, show chainB.length = 5 from rfl]
  omega
theorem outer_len {ks ds : List Nat} (h : ks.length ≤ 64) : (outer ks ds).length = 96 := by
  unfold outer
  rw [List.length_append, xorL_length, key64_length h, Sha.sum_length]
/-- The strings whose sums are the values of n steps. -/
def links (i : Nat) : Nat → Nat → List Nat → List (List Nat)
  | _, 0, _ => []
  | j, n + 1, x => input i j x :: links i (j + 1) n (Sha.sum (input i j x))
theorem mem_links (i : Nat) : ∀ n j x k, k < n → input i (j + k) (chain i j k x) ∈ links i j n x
  | 0, _, _, _, h => by omega
  | n + 1, j, x, 0, _ => List.mem_cons_self ..
  | n + 1, j, x, k + 1, h => by
    refine List.mem_cons_of_mem _ ?_
    have := mem_links i n (j + 1) (Sha.sum (input i j x)) k (by omega)
    rwa [show j + 1 + k = j + (k + 1) by omega] at this
theorem links_succ (i : Nat) : ∀ n j x, links i j (n + 1) x = links i j n x ++ [input i (j + n) (chain i j n x)]
  | 0, j, x => rfl
  | n + 1, j, x => by
    rw [links, links_succ i n (j + 1), links, List.cons_append]
    rw [show j + 1 + n = j + (n + 1) by omega]; rfl

/-- The last values of chains that go on from parts at steps. -/
def ends (B : Nat) (steps : List Nat) (parts : List (List Nat)) (n : Nat) : List (List Nat) := (List.range n).map fun i => chain i (steps.getD i 0) (last B - steps.getD i 0) (parts.getD i [])
def endsS (B : Nat) (steps : List Nat) (parts : List (List Nat)) (n : Nat) : List Nat := publicB ++ (ends B steps parts n).flatten
def starts (seed : List Nat) (n : Nat) : List (List Nat) := (List.range n).map (secret seed)
def pubOf (vs : List (List Nat)) : List Nat := Sha.sum (publicB ++ vs.flatten)
def pub (B : Nat) (seed : List Nat) (n : Nat) : List Nat := pubOf ((List.range n).map fun i => chain i 0 (last B) (secret seed i))
def sign (seed : List Nat) (ds : List Nat) : List (List Nat) := (List.range ds.length).map fun i => chain i 0 (ds.getD i 0) (secret seed i)
def recover (B : Nat) (ds : List Nat) (parts : List (List Nat)) : List Nat := pubOf (ends B ds parts ds.length)
theorem starts_getD (seed : List Nat) (n i : Nat) (h : i < n) : (starts seed n).getD i [] = secret seed i := by
  simp [starts, List.getD_eq_getElem?_getD, h]
theorem sign_getD (seed ds : List Nat) (i : Nat) (h : i < ds.length) : (sign seed ds).getD i [] = chain i 0 (ds.getD i 0) (secret seed i) := by
  simp [sign, List.getD_eq_getElem?_getD, h]
theorem sign_length (seed ds : List Nat) : (sign seed ds).length = ds.length := by simp [sign]
theorem ends_length (B : Nat) (steps : List Nat) (parts : List (List Nat)) (n : Nat) : (ends B steps parts n).length = n := by simp [ends]
theorem ends_get (B : Nat) (steps : List Nat) (parts : List (List Nat)) (n i : Nat) (h : i < n) : (ends B steps parts n).getD i [] = chain i (steps.getD i 0) (last B - steps.getD i 0) (parts.getD i []) := by
  simp [ends, List.getD_eq_getElem?_getD, h]
theorem flat_inj : ∀ (a b : List (List Nat)), a.length = b.length → (∀ x ∈ a, x.length = 32) → (∀ x ∈ b, x.length = 32) → a.flatten = b.flatten → a = b
  | [], [], _, _, _, _ => rfl
  | [], _ :: _, h, _, _, _ => by simp at h
  | _ :: _, [], h, _, _, _ => by simp at h
  | x :: a, y :: b, h, ha, hb, e => by
    rw [List.flatten_cons, List.flatten_cons] at e
    obtain ⟨e1, e2⟩ := List.append_inj e (by rw [ha x (List.mem_cons_self ..), hb y (List.mem_cons_self ..)])
    rw [e1, flat_inj a b (by simpa using h) (fun z hz => ha z (List.mem_cons_of_mem _ hz)) (fun z hz => hb z (List.mem_cons_of_mem _ hz)) e2]
theorem ends_len32 (B : Nat) (steps : List Nat) (parts : List (List Nat)) (n : Nat) (h : ∀ i, i < n → (parts.getD i []).length = 32) : ∀ x ∈ ends B steps parts n, x.length = 32 := by
  intro x hx
  obtain ⟨i, hi, rfl⟩ := List.mem_map.1 hx
  exact chain_length _ _ _ _ (h i (List.mem_range.1 hi))
/-- What is signed verifies. -/
theorem verifies (B : Nat) (seed ds : List Nat) (hd : ∀ x ∈ ds, x ≤ last B) : recover B ds (sign seed ds) = pub B seed ds.length := by
  unfold recover pub ends
  congr 1
  refine List.map_congr_left fun i hi => ?_
  have hi2 := List.mem_range.1 hi
  rw [sign_getD _ _ _ hi2]
  have hle : ds.getD i 0 ≤ last B := by
    rw [List.getD_eq_getElem?_getD, List.getElem?_eq_getElem hi2]; exact hd _ (List.getElem_mem _)
  have := chain_add i (ds.getD i 0) 0 (last B - ds.getD i 0) (secret seed i)
  rw [Nat.zero_add, show ds.getD i 0 + (last B - ds.getD i 0) = last B by omega] at this
  exact this.symm
/-- Two different strings of a list have one sum. -/
def Coll (L : List (List Nat)) : Prop := ∃ s ∈ L, ∃ t ∈ L, s ≠ t ∧ Sha.sum s = Sha.sum t
def summed (B : Nat) (seed ds : List Nat) (parts : List (List Nat)) : List (List Nat) :=
  (List.range ds.length).flatMap (fun i => inner seed (secretIn i) :: outer seed (secretIn i) :: links i 0 (last B) (secret seed i)) ++
  ((List.range parts.length).flatMap (fun i => links i (ds.getD i 0) (last B - ds.getD i 0) (parts.getD i [])) ++
  [endsS B [] (starts seed ds.length) ds.length, endsS B ds parts parts.length])
theorem mem_chain {B : Nat} {seed ds : List Nat} {parts : List (List Nat)} {i k : Nat} (hi : i < ds.length) (hk : k < last B) : input i k (chain i 0 k (secret seed i)) ∈ summed B seed ds parts := by
  refine List.mem_append_left _ (List.mem_flatMap.2 ⟨i, List.mem_range.2 hi, List.mem_cons_of_mem _ (List.mem_cons_of_mem _ ?_)⟩)
  have := mem_links i (last B) 0 (secret seed i) k hk
  rwa [Nat.zero_add] at this
theorem mem_outer {B : Nat} {seed ds : List Nat} {parts : List (List Nat)} {i : Nat} (hi : i < ds.length) : outer seed (secretIn i) ∈ summed B seed ds parts :=
  List.mem_append_left _ (List.mem_flatMap.2 ⟨i, List.mem_range.2 hi, List.mem_cons_of_mem _ (List.mem_cons_self ..)⟩)
theorem mem_part {B : Nat} {seed ds : List Nat} {parts : List (List Nat)} {i k : Nat} (hi : i < parts.length) (hk : k < last B - ds.getD i 0) : input i (ds.getD i 0 + k) (chain i (ds.getD i 0) k (parts.getD i [])) ∈ summed B seed ds parts :=
  List.mem_append_right _ (List.mem_append_left _ (List.mem_flatMap.2 ⟨i, List.mem_range.2 hi, mem_links _ _ _ _ _ hk⟩))
theorem mem_ends0 {B : Nat} {seed ds : List Nat} {parts : List (List Nat)} : endsS B [] (starts seed ds.length) ds.length ∈ summed B seed ds parts :=
  List.mem_append_right _ (List.mem_append_right _ (List.mem_cons_self ..))
theorem mem_ends1 {B : Nat} {seed ds : List Nat} {parts : List (List Nat)} : endsS B ds parts parts.length ∈ summed B seed ds parts :=
  List.mem_append_right _ (List.mem_append_right _ (List.mem_cons_of_mem _ (List.mem_cons_self ..)))
theorem endsS_start (B : Nat) (seed : List Nat) (n : Nat) : Sha.sum (endsS B [] (starts seed n) n) = pub B seed n := by
  unfold endsS pub pubOf ends
  congr 3
  refine List.map_congr_left fun i hi => ?_
  rw [starts_getD _ _ _ (List.mem_range.1 hi)]
  rfl
/-- Parts that go on to the public key are those of the key, or two strings have one sum. -/
theorem goes_on {B : Nat} {seed ds : List Nat} {parts : List (List Nat)} (hp : parts.length = ds.length) (h32 : ∀ x ∈ parts, x.length = 32) (hd : ∀ x ∈ ds, x ≤ last B)
    (h : recover B ds parts = pub B seed ds.length) (hc : ¬ Coll (summed B seed ds parts)) : ∀ i, i < ds.length → parts.getD i [] = chain i 0 (ds.getD i 0) (secret seed i) := by
  intro i hi
  have hge : ∀ i, i < ds.length → (parts.getD i []).length = 32 := fun i hi => by
    rw [List.getD_eq_getElem?_getD, List.getElem?_eq_getElem (by omega)]; exact h32 _ (List.getElem_mem _)
  have hle : ds.getD i 0 ≤ last B := by
    rw [List.getD_eq_getElem?_getD, List.getElem?_eq_getElem hi]; exact hd _ (List.getElem_mem _)
  have e1 : endsS B [] (starts seed ds.length) ds.length = endsS B ds parts parts.length := by
    refine Classical.byContradiction fun hne => hc ⟨_, mem_ends0, _, mem_ends1, hne, ?_⟩
    rw [endsS_start, hp]
    exact h.symm
  unfold endsS at e1
  rw [hp] at e1
  have e2 := flat_inj _ _ (by rw [ends_length, ends_length]) (ends_len32 _ _ _ _ (fun i hi => by rw [starts_getD _ _ _ hi]; exact secret_length _ _)) (ends_len32 _ _ _ _ hge) (List.append_cancel_left e1)
  have e3 := congrArg (fun l => l.getD i []) e2
  simp only [ends_get _ _ _ _ _ hi, starts_getD _ _ _ hi] at e3
  have e4 : chain i 0 (last B) (secret seed i) = chain i (ds.getD i 0) (last B - ds.getD i 0) (parts.getD i []) := e3
  rw [show last B = ds.getD i 0 + (last B - ds.getD i 0) by omega, chain_add, Nat.zero_add, show ds.getD i 0 + (last B - ds.getD i 0) - ds.getD i 0 = last B - ds.getD i 0 by omega] at e4
  refine Classical.byContradiction fun hne => ?_
  obtain ⟨k, hk, h1, h2⟩ := merge i (ds.getD i 0) _ _ _ e4 (fun e => hne e.symm)
  have e5 : chain i (ds.getD i 0) k (chain i 0 (ds.getD i 0) (secret seed i)) = chain i 0 (ds.getD i 0 + k) (secret seed i) := by
    have := chain_add i (ds.getD i 0) 0 k (secret seed i)
    rw [Nat.zero_add] at this
    exact this.symm
  rw [e5] at h1 h2
  exact hc ⟨_, mem_chain hi (by omega), _, mem_part (by omega) hk, fun e => h1 (input_inj e).2, h2⟩
/-- Only the signature is accepted. -/
theorem only {B : Nat} {seed ds : List Nat} {parts : List (List Nat)} (hp : parts.length = ds.length) (h32 : ∀ x ∈ parts, x.length = 32) (hd : ∀ x ∈ ds, x ≤ last B)
    (h : recover B ds parts = pub B seed ds.length) (hne : parts ≠ sign seed ds) : Coll (summed B seed ds parts) := by
  refine Classical.byContradiction fun hc => hne ?_
  have hg := goes_on hp h32 hd h hc
  refine List.ext_getElem (by rw [sign_length, hp]) fun i h1 h2 => ?_
  have h3 := hg i (by omega)
  rw [← sign_getD seed ds i (by omega), List.getD_eq_getElem?_getD, List.getElem?_eq_getElem h1, List.getD_eq_getElem?_getD, List.getElem?_eq_getElem h2] at h3
  exact h3
/-- A signature is not accepted for digits of which one is less, or two strings have one sum. -/
theorem binds {B : Nat} {seed ds os : List Nat} (hl : os.length = ds.length) (hd : ∀ x ∈ ds, x ≤ last B) (ho : ∀ x ∈ os, x ≤ last B) (hs : seed.length ≤ 64) (hn : ds.length < 16384) (hB : last B < 16384)
    (h : recover B os (sign seed ds) = pub B seed os.length) (i : Nat) (hi : i < ds.length) (hlt : os.getD i 0 < ds.getD i 0) : Coll (summed B seed os (sign seed ds)) := by
  refine Classical.byContradiction fun hc => ?_
  have h32 : ∀ x ∈ sign seed ds, x.length = 32 := fun x hx => by
    obtain ⟨i, _, rfl⟩ := List.mem_map.1 hx
    exact chain_length _ _ _ _ (secret_length _ _)
  have hg := goes_on (by rw [sign_length, hl]) h32 ho h hc i (by omega)
  rw [sign_getD _ _ _ hi] at hg
  have hdi : ds.getD i 0 ≤ last B := by
    rw [List.getD_eq_getElem?_getD, List.getElem?_eq_getElem hi]; exact hd _ (List.getElem_mem _)
  obtain ⟨a, ha⟩ : ∃ a, ds.getD i 0 = a + 1 := ⟨ds.getD i 0 - 1, by omega⟩
  rw [ha] at hg hdi hlt
  rw [chain_succ, Nat.zero_add] at hg
  by_cases hz : os.getD i 0 = 0
  · rw [hz] at hg
    have e : Sha.sum (input i a (chain i 0 a (secret seed i))) = Sha.sum (outer seed (secretIn i)) := hg
    refine hc ⟨_, mem_chain (by omega) (k := a) (by omega), _, mem_outer (by omega), fun e2 => ?_, e⟩
    have h1 := congrArg List.length e2
    rw [outer_len hs] at h1
    have h2 := input_len (i := i) (j := a) (x := chain i 0 a (secret seed i)) (by omega) (by omega) (chain_length _ _ _ _ (secret_length _ _))
    omega
  · obtain ⟨b, hb⟩ : ∃ b, os.getD i 0 = b + 1 := ⟨os.getD i 0 - 1, by omega⟩
    rw [hb] at hg hlt
    rw [chain_succ, Nat.zero_add] at hg
    refine hc ⟨_, mem_chain (by omega) (k := a) (by omega), _, mem_chain (by omega) (k := b) (by omega), fun e2 => ?_, hg⟩
    have := (input_inj e2).1
    omega
end One
end Go.Proofs.YtmnendoloankgaaDoor
