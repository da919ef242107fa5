/- Texts One, Str, Built, Mac of the proof, each as a section; no premises beyond those that each theorem states. -/
import Derived.Lib.BufferWrite
import Derived.Test.YtmcbnhkcjhlbaaaGreatDoorP03
set_option linter.unusedVariables false
set_option linter.unusedSimpArgs false
section
namespace Go.Proofs.YtmcbnhkcjhlbaaaGreatDoor
namespace One

def num (n : Nat) : List Nat := if h : n < 128 then [n] else (n % 128 + 128) :: num (n / 128)
termination_by n
decreasing_by omega
theorem num_small {n : Nat} (h : n < 128) : num n = [n] := by rw [num, dif_pos h]
theorem num_big {n : Nat} (h : 128 ≤ n) : num n = (n % 128 + 128) :: num (n / 128) := by rw [num, dif_neg (by omega)]
theorem num_lt (n : Nat) : ∀ x ∈ num n, x < 256 := by
  induction n using Nat.strongRecOn with
  | ind n ih =>
    by_cases h : n < 128
    · rw [num_small h]; intro x hx; have := List.mem_singleton.1 hx; omega
    · rw [num_big (by omega)]
      intro x hx
      rcases List.mem_cons.1 hx with e | hx
      · omega
      · exact ih _ (by omega) x hx
theorem num_inj (a : Nat) : ∀ (b : Nat) (s t : List Nat), num a ++ s = num b ++ t → a = b ∧ s = t := by
  induction a using Nat.strongRecOn with
  | ind a ih =>
    intro b s t h
    by_cases ha : a < 128
    · rw [num_small ha] at h
      by_cases hb : b < 128
      · rw [num_small hb] at h
        simp at h
        exact h
      · rw [num_big (by omega)] at h
        simp at h
        omega
    · rw [num_big (by omega)] at h
      by_cases hb : b < 128
      · rw [num_small hb] at h
        simp at h
        omega
      · rw [num_big (by omega) (n := b)] at h
        simp only [List.cons_append, List.cons.injEq] at h
        obtain ⟨h1, h2⟩ := h
        obtain ⟨h3, h4⟩ := ih (a / 128) (by omega) _ _ _ h2
        exact ⟨by omega, h4⟩
def last (B : Nat) : Nat := 2 ^ B - 1
def cnt (B g : Nat) : Nat := g.log2 / B + 1
def key64 (ks : List Nat) : List Nat := ks ++ List.replicate (64 - ks.length) 0
theorem key64_length {ks : List Nat} (h : ks.length ≤ 64) : (key64 ks).length = 64 := by
  unfold key64; rw [List.length_append, List.length_replicate]; omega
theorem key64_lt {ks : List Nat} (h : ∀ x ∈ ks, x < 256) : ∀ x ∈ key64 ks, x < 256 := by
  intro x hx
  rcases List.mem_append.1 hx with h1 | h1
  · exact h x h1
  · have := List.eq_of_mem_replicate h1; omega
def inner (ks ds : List Nat) : List Nat := xorL (key64 ks) 54 ++ ds
def outer (ks ds : List Nat) : List Nat := xorL (key64 ks) 92 ++ Sha.sum (inner ks ds)
def tag (ks ds : List Nat) : List Nat := Sha.sum (outer ks ds)
def secretB : List Nat := [115, 101, 99, 114, 101, 116]
def chainB : List Nat := [99, 104, 97, 105, 110]
def publicB : List Nat := [112, 117, 98, 108, 105, 99]
def secretIn (i : Nat) : List Nat := secretB ++ num i
def secret (seed : List Nat) (i : Nat) : List Nat := tag seed (secretIn i)
def input (i j : Nat) (x : List Nat) : List Nat := chainB ++ (num i ++ (num j ++ x))
def chain (i : Nat) : Nat → Nat → List Nat → List Nat
  | _, 0, x => x
  | j, n + 1, x => chain i (j + 1) n (Sha.sum (input i j x))
theorem chain_add (i : Nat) : ∀ a j b x, chain i j (a + b) x = chain i (j + a) b (chain i j a x)
  | 0, j, b, x => by rw [Nat.zero_add]; rfl
  | a + 1, j, b, x => by
    rw [show a + 1 + b = (a + b) + 1 by omega, chain, chain_add i a (j + 1) b, chain, show j + 1 + a = j + (a + 1) by omega]
theorem chain_succ (i j n : Nat) (x : List Nat) : chain i j (n + 1) x = Sha.sum (input i (j + n) (chain i j n x)) := by
  rw [chain_add i n j 1 x]; rfl
theorem chain_length (i : Nat) : ∀ n j x, x.length = 32 → (chain i j n x).length = 32
  | 0, _, _, h => h
  | n + 1, j, x, _ => chain_length i n (j + 1) _ (Sha.sum_length _)
theorem secret_length (seed : List Nat) (i : Nat) : (secret seed i).length = 32 := Sha.sum_length _
theorem merge (i j : Nat) (x y : List Nat) : ∀ n, chain i j n x = chain i j n y → x ≠ y → ∃ k, k < n ∧ chain i j k x ≠ chain i j k y ∧ Sha.sum (input i (j + k) (chain i j k x)) = Sha.sum (input i (j + k) (chain i j k y))
  | 0, h, hn => absurd h hn
  | n + 1, h, hn => by
    rw [chain_succ, chain_succ] at h
    by_cases e : chain i j n x = chain i j n y
    · obtain ⟨k, hk, r⟩ := merge i j x y n e hn
      exact ⟨k, by omega, r⟩
    · exact ⟨n, by omega, e, h⟩
theorem input_inj {i j k : Nat} {x y : List Nat} (h : input i j x = input i k y) : j = k ∧ x = y := by
  unfold input at h
  have h1 := List.append_cancel_left (List.append_cancel_left h)
  exact num_inj _ _ _ _ h1
def links (i : Nat) : Nat → Nat → List Nat → List (List Nat)
  | _, 0, _ => []
  | j, n + 1, x => input i j x :: links i (j + 1) n (Sha.sum (input i j x))
theorem mem_links (i : Nat) : ∀ n j x k, k < n → input i (j + k) (chain i j k x) ∈ links i j n x
  | 0, _, _, _, h => by omega
  | n + 1, j, x, 0, _ => List.mem_cons_self ..
  | n + 1, j, x, k + 1, h => by
    refine List.mem_cons_of_mem _ ?_
    have := mem_links i n (j + 1) (Sha.sum (input i j x)) k (by omega)
    rwa [show j + 1 + k = j + (k + 1) by omega] at this
def ends (B : Nat) (steps : List Nat) (parts : List (List Nat)) (n : Nat) : List (List Nat) := (List.range n).map fun i => chain i (steps.getD i 0) (last B - steps.getD i 0) (parts.getD i [])
def endsS (B : Nat) (steps : List Nat) (parts : List (List Nat)) (n : Nat) : List Nat := publicB ++ (ends B steps parts n).flatten
def starts (seed : List Nat) (n : Nat) : List (List Nat) := (List.range n).map (secret seed)
def pubOf (vs : List (List Nat)) : List Nat := Sha.sum (publicB ++ vs.flatten)
def pub (B : Nat) (seed : List Nat) (n : Nat) : List Nat := pubOf ((List.range n).map fun i => chain i 0 (last B) (secret seed i))
def sign (seed : List Nat) (ds : List Nat) : List (List Nat) := (List.range ds.length).map fun i => chain i 0 (ds.getD i 0) (secret seed i)
def recover (B : Nat) (ds : List Nat) (parts : List (List Nat)) : List Nat := pubOf (ends B ds parts ds.length)
theorem starts_getD (seed : List Nat) (n i : Nat) (h : i < n) : (starts seed n).getD i [] = secret seed i := by
  simp [starts, List.getD_eq_getElem?_getD, h]
theorem sign_getD (seed ds : List Nat) (i : Nat) (h : i < ds.length) : (sign seed ds).getD i [] = chain i 0 (ds.getD i 0) (secret seed i) := by
  simp [sign, List.getD_eq_getElem?_getD, h]
theorem sign_length (seed ds : List Nat) : (sign seed ds).length = ds.length := by simp [sign]
theorem ends_length (B : Nat) (steps : List Nat) (parts : List (List Nat)) (n : Nat) : (ends B steps parts n).length = n := by simp [ends]
theorem ends_get (B : Nat) (steps : List Nat) (parts : List (List Nat)) (n i : Nat) (h : i < n) : (ends B steps parts n).getD i [] = chain i (steps.getD i 0) (last B - steps.getD i 0) (parts.getD i []) := by
  simp [ends, List.getD_eq_getElem?_getD, h]
theorem flat_inj : ∀ (a b : List (List Nat)), a.length = b.length → (∀ x ∈ a, x.length = 32) → (∀ x ∈ b, x.length = 32) → a.flatten = b.flatten → a = b
  | [], [], _, _, _, _ => rfl
  | [], _ :: _, h, _, _, _ => by simp at h
  | _ :: _, [], h, _, _, _ => by simp at h
  | x :: a, y :: b, h, ha, hb, e => by
    rw [List.flatten_cons, List.flatten_cons] at e
    obtain ⟨e1, e2⟩ := List.append_inj e (by rw [ha x (List.mem_cons_self ..), hb y (List.mem_cons_self ..)])
    rw [e1, flat_inj a b (by simpa using h) (fun z hz => ha z (List.mem_cons_of_mem _ hz)) (fun z hz => hb z (List.mem_cons_of_mem _ hz)) e2]
theorem ends_len32 (B : Nat) (steps : List Nat) (parts : List (List Nat)) (n : Nat) (h : ∀ i, i < n → (parts.getD i []).length = 32) : ∀ x ∈ ends B steps parts n, x.length = 32 := by
  intro x hx
  obtain ⟨i, hi, rfl⟩ := List.mem_map.1 hx
  exact chain_length _ _ _ _ (h i (List.mem_range.1 hi))
def Coll (L : List (List Nat)) : Prop := ∃ s ∈ L, ∃ t ∈ L, s ≠ t ∧ Sha.sum s = Sha.sum t
def summed (B : Nat) (seed ds : List Nat) (parts : List (List Nat)) : List (List Nat) :=
  (List.range ds.length).flatMap (fun i => inner seed (secretIn i) :: outer seed (secretIn i) :: links i 0 (last B) (secret seed i)) ++
  ((List.range parts.length).flatMap (fun i => links i (ds.getD i 0) (last B - ds.getD i 0) (parts.getD i [])) ++
  [endsS B [] (starts seed ds.length) ds.length, endsS B ds parts parts.length])
theorem mem_chain {B : Nat} {seed ds : List Nat} {parts : List (List Nat)} {i k : Nat} (hi : i < ds.length) (hk : k < last B) : input i k (chain i 0 k (secret seed i)) ∈ summed B seed ds parts := by
  refine List.mem_append_left _ (List.mem_flatMap.2 ⟨i, List.mem_range.2 hi, List.mem_cons_of_mem _ (List.mem_cons_of_mem _ ?_)⟩)
  have := mem_links i (last B) 0 (secret seed i) k hk
  rwa [Nat.zero_add] at this
theorem mem_part {B : Nat} {seed ds : List Nat} {parts : List (List Nat)} {i k : Nat} (hi : i < parts.length) (hk : k < last B - ds.getD i 0) : input i (ds.getD i 0 + k) (chain i (ds.getD i 0) k (parts.getD i [])) ∈ summed B seed ds parts :=
  List.mem_append_right _ (List.mem_append_left _ (List.mem_flatMap.2 ⟨i, List.mem_range.2 hi, mem_links _ _ _ _ _ hk⟩))
theorem mem_ends0 {B : Nat} {seed ds : List Nat} {parts : List (List Nat)} : endsS B [] (starts seed ds.length) ds.length ∈ summed B seed ds parts :=
  List.mem_append_right _ (List.mem_append_right _ (List.mem_cons_self ..))
theorem mem_ends1 {B : Nat} {seed ds : List Nat} {parts : List (List Nat)} : endsS B ds parts parts.length ∈ summed B seed ds parts :=
  List.mem_append_right _ (List.mem_append_right _ (List.mem_cons_of_mem _ (List.mem_cons_self ..)))
theorem endsS_start (B : Nat) (seed : List Nat) (n : Nat) : Sha.sum (endsS B [] (starts seed n) n) = pub B seed n := by
  unfold endsS pub pubOf ends
  congr 3
  refine List.map_congr_left fun i hi => ?_
  rw [starts_getD _ _ _ (List.mem_range.1 hi)]
  rfl
theorem goes_on {B : Nat} {seed ds : List Nat} {parts : List (List Nat)} (hp : parts.length = ds.length) (h32 : ∀ x ∈ parts, x.length = 32) (hd : ∀ x ∈ ds, x ≤ last B)
    (h : recover B ds parts = pub B seed ds.length) (hc : ¬ Coll (summed B seed ds parts)) : ∀ i, i < ds.length → parts.getD i [] = chain i 0 (ds.getD i 0) (secret seed i) := by
  intro i hi
  have hge : ∀ i, i < ds.length → (parts.getD i []).length = 32 := fun i hi => by
    rw [List.getD_eq_getElem?_getD, List.getElem?_eq_getElem (by omega)]; exact h32 _ (List.getElem_mem _)
  have hle : ds.getD i 0 ≤ last B := by
    rw [List.getD_eq_getElem?_getD, List.getElem?_eq_getElem hi]; exact hd _ (List.getElem_mem _)
  have e1 : endsS B [] (starts seed ds.length) ds.length = endsS B ds parts parts.length := by
    refine Classical.byContradiction fun hne => hc ⟨_, mem_ends0, _, mem_ends1, hne, ?_⟩
    rw [endsS_start, hp]
    exact h.symm
  unfold endsS at e1
  rw [hp] at e1
  have e2 := flat_inj _ _ (by rw [ends_length, ends_length]) (ends_len32 _ _ _ _ (fun i hi => by rw [starts_getD _ _ _ hi]; exact secret_length _ _)) (ends_len32 _ _ _ _ hge) (List.append_cancel_left e1)
  have e3 := congrArg (fun l => l.getD i []) e2
  simp only [ends_get _ _ _ _ _ hi, starts_getD _ _ _ hi] at e3
  have e4 : chain i 0 (last B) (secret seed i) = chain i (ds.getD i 0) (last B - ds.getD i 0) (parts.getD i []) := e3
  rw [show last B = ds.getD i 0 + (last B - ds.getD i 0) by omega, chain_add, Nat.zero_add, show ds.getD i 0 + (last B - ds.getD i 0) - ds.getD i 0 = last B - ds.getD i 0 by omega] at e4
  refine Classical.byContradiction fun hne => ?_
  obtain ⟨k, hk, h1, h2⟩ := merge i (ds.getD i 0) _ _ _ e4 (fun e => hne e.symm)
  have e5 : chain i (ds.getD i 0) k (chain i 0 (ds.getD i 0) (secret seed i)) = chain i 0 (ds.getD i 0 + k) (secret seed i) := by
    have := chain_add i (ds.getD i 0) 0 k (secret seed i)
    rw [Nat.zero_add] at this
    exact this.symm
  rw [e5] at h1 h2
  exact hc ⟨_, mem_chain hi (by omega), _, mem_part (by omega) hk, fun e => h1 (input_inj e).2, h2⟩
theorem only {B : Nat} {seed ds : List Nat} {parts : List (List Nat)} (hp : parts.length = ds.length) (h32 : ∀ x ∈ parts, x.length = 32) (hd : ∀ x ∈ ds, x ≤ last B)
    (h : recover B ds parts = pub B seed ds.length) (hne : parts ≠ sign seed ds) : Coll (summed B seed ds parts) := by
  refine Classical.byContradiction fun hc => hne ?_
  have hg := goes_on hp h32 hd h hc
  refine List.ext_getElem (by rw [sign_length, hp]) fun i h1 h2 => ?_
  have h3 := hg i (by omega)
  rw [← sign_getD seed ds i (by omega), List.getD_eq_getElem?_getD, List.getElem?_eq_getElem h1, List.getD_eq_getElem?_getD, List.getElem?_eq_getElem h2] at h3
  exact h3
end One
end Go.Proofs.YtmcbnhkcjhlbaaaGreatDoor
end
section
namespace Go.Proofs.YtmcbnhkcjhlbaaaGreatDoor
open Go.RowKit
open Kit (Chg)

theorem nb_strB {bs : List Nat} (h : ∀ x ∈ bs, x < 256) : nb (strB bs) = bs := by
  unfold nb strB
  rw [strOfNums_data, List.map_map, List.map_map]
  have e : ∀ x ∈ bs, (UInt8.toNat ∘ ((fun (n : Int) => UInt8.ofNat n.toNat) ∘ fun (x : Nat) => (x : Int))) x = x := fun x hx => by
    have := h x hx
    simp
    omega
  calc _ = bs.map id := List.map_congr_left e
    _ = bs := List.map_id _
theorem map_inj : ∀ l m : List UInt8, l.map UInt8.toNat = m.map UInt8.toNat → l = m
  | [], [], _ => rfl
  | [], _ :: _, h => by simp at h
  | _ :: _, [], h => by simp at h
  | a :: l, b :: m, h => by
    simp only [List.map_cons, List.cons.injEq] at h
    rw [UInt8.toNat_inj.1 h.1, map_inj l m h.2]
theorem nb_inj {s t : ByteArray} (h : nb s = nb t) : s = t := by
  refine ByteArray.ext (Array.toList_inj.1 ?_)
  unfold nb at h
  exact map_inj _ _ h
theorem strB_nb (s : ByteArray) : strB (nb s) = s := nb_inj (nb_strB (nb_lt s))
theorem strB_size (bs : List Nat) (h : ∀ x ∈ bs, x < 256) : (strB bs).size = bs.length := by
  rw [← nb_length, nb_strB h]
theorem eq_str (s t : ByteArray) : (s.toList == t.toList) = decide (nb s = nb t) := by
  rw [Bool.eq_iff_iff, beq_iff_eq, decide_eq_true_eq]
  refine ⟨fun h => ?_, fun h => by rw [nb_inj h]⟩
  rw [Lib.toList_data, Lib.toList_data] at h
  unfold nb
  rw [h]
theorem catB_strs (ss : List (List Nat)) (h : ∀ s ∈ ss, ∀ x ∈ s, x < 256) : catB (ss.map strB) = ss.flatten := by
  induction ss with
  | nil => rfl
  | cons s ss ih =>
    unfold catB at ih ⊢
    rw [List.map_cons, List.flatMap_cons, ih (fun t ht => h t (List.mem_cons_of_mem _ ht)), nb_strB (h s (List.mem_cons_self ..)), List.flatten_cons]
end Go.Proofs.YtmcbnhkcjhlbaaaGreatDoor
end
section
namespace Go.Proofs.YtmcbnhkcjhlbaaaGreatDoor
namespace Kit
variable {P : Program}

theorem foldl_splice (off : Nat) (vs : List Value) (cells : Array Value) (h : off + vs.length ≤ cells.size) :
    (vs.zipIdx 0).foldl (fun cs (x : Value × Nat) => cs.setIfInBounds (off + x.2) x.1) cells = (splice cells.toList off vs).toArray := by
  obtain ⟨h1, h2⟩ := Great.foldl_set off vs 0 cells
  apply Array.ext_getElem?
  intro k
  rw [h2 k]
  simp only [splice, List.getElem?_toArray, Nat.add_zero]
  have hl : (cells.toList.take off).length = off := by rw [List.length_take, Array.length_toList]; omega
  by_cases hk : k < off
  · rw [if_neg (by omega), List.getElem?_append_left (by rw [hl]; exact hk), List.getElem?_take_of_lt hk]
    simp
  · by_cases hk2 : k < off + vs.length
    · rw [if_pos ⟨by omega, hk2, by omega⟩, List.getElem?_append_right (by rw [hl]; omega), hl, List.getElem?_append_left (by omega)]
    · rw [if_neg (by omega), List.getElem?_append_right (by rw [hl]; omega), hl, List.getElem?_append_right (by omega), List.getElem?_drop]
      rw [show off + vs.length + (k - off - vs.length) = k by omega]
      simp

theorem splice_at {α : Type} (A Z C : List α) (off : Nat) (h : A.length = off) : splice (A ++ Z) off C = A ++ (C ++ Z.drop C.length) := by
  unfold splice
  subst h
  rw [List.take_left, ← List.drop_drop, List.drop_left]
theorem splice_length {α : Type} (L C : List α) (off : Nat) (h : off + C.length ≤ L.length) : (splice L off C).length = L.length := by
  unfold splice
  simp only [List.length_append, List.length_take, List.length_drop]
  omega
theorem fill_put {place : Nat → Option (Nat × Nat)} {cells : Array Value} {i off size : Nat} {v : Value} {rest : List (Nat × Value)} (hp : place i = some (off, size)) (hs : v.cells.size = size) (hle : off + size ≤ cells.size) :
    Instr.fill place cells ((i, v) :: rest) = Instr.fill place (splice cells.toList off v.cells.toList).toArray rest := by
  conv => lhs; unfold Instr.fill
  simp only [hp]
  rw [if_neg (by simp; omega)]
  congr 1
  have := foldl_splice off v.cells.toList cells (by simp; omega)
  rw [← this, ← Array.foldl_toList]
  simp

theorem fill_nil {place : Nat → Option (Nat × Nat)} {cells : Array Value} : Instr.fill place cells [] = some cells := rfl
theorem wp_build_to {o : Oper} {a : Act} {w : World} {K : Act → World → Prop} {Q : Exit → Act → World → Prop} (t : TypeId) (parts : Array (Nat × Operand)) (ho : o.op = .build t parts) (cells : Array Value)
    (hf : P.built t (parts.map fun (i, x) => (i, a.eval x)).toList = some cells) (h : K (a.put o.dst (.agg cells)) w) : o.wp P a w K Q := by
  refine wp_build t parts ho (by rw [hf]; rfl) ?_
  rw [hf]
  exact h
theorem wp_build_list {o : Oper} {a : Act} {w : World} {K : Act → World → Prop} {Q : Exit → Act → World → Prop} (t : TypeId) (parts : List (Nat × Operand)) (ho : o.op = .build t parts.toArray) (cells : Array Value)
    (hf : P.built t (parts.map fun x => (x.1, a.eval x.2)) = some cells) (h : K (a.put o.dst (.agg cells)) w) : o.wp P a w K Q :=
  wp_build_to t parts.toArray ho cells (by rw [List.map_toArray]; exact hf) h
theorem built_struct {t : TypeId} {it : TypeInfo} {z : Value} {fields : Array Field} {places : List (Nat × Nat)} {parts : List (Nat × Value)} {R : Array Value} (hi : P.info? t = some it) (hu : P.underlying t = some (.struct fields)) (hz : it.zero = some z)
    (hp : fields.toList.mapM (fun f => (P.info? f.type).map fun i => (f.offset, i.size)) = some places) (hf : Instr.fill (places.toArray[·]?) z.cells parts = some R) : P.built t parts = some R := by
  unfold Program.built
  simp only [hi, hu, hz, hp]
  exact hf
theorem built_two {t : TypeId} {n1 n2 : Nat} (hz : (P.info? t).map (fun i => i.zero.map (fun z => z.cells.size)) = some (some (n1 + n2)))
    (hf : (match P.underlying t with | some (.struct fields) => fields.toList.mapM (fun f => (P.info? f.type).map fun i => (f.offset, i.size)) | _ => none) = some [(0, n1), (n1, n2)])
    (A B : Array Value) (hA : A.size = n1) (hB : B.size = n2) : P.built t [(0, .agg A), (1, .agg B)] = some (A ++ B) := by
  cases hi : P.info? t with
  | none => rw [hi] at hz; cases hz
  | some it =>
    rw [hi] at hz
    cases hzz : it.zero with
    | none => rw [Option.map_some, hzz] at hz; cases hz
    | some z =>
      rw [Option.map_some, hzz, Option.map_some, Option.some.injEq, Option.some.injEq] at hz
      cases hu : P.underlying t with
      | none => rw [hu] at hf; cases hf
      | some d =>
        rw [hu] at hf
        cases d with
        | struct fields =>
          refine built_struct hi hu hzz hf ?_
          have hA0 : (Value.agg A).cells.toList.length = n1 := by rw [Array.length_toList]; exact hA
          have hB0 : (Value.agg B).cells.toList.length = n2 := by rw [Array.length_toList]; exact hB
          have hzl : z.cells.toList.length = n1 + n2 := by rw [Array.length_toList]; exact hz
          rw [fill_put (v := .agg A) (off := 0) (size := n1) rfl hA (by omega),
            fill_put (v := .agg B) (off := n1) (size := n2) rfl hB (by rw [List.size_toArray, splice_length _ _ _ (by omega), hzl]; omega)]
          rw [fill_nil]
          refine congrArg some ?_
          have e0 := splice_at [] z.cells.toList A.toList 0 rfl
          rw [List.nil_append, List.nil_append, show A.toList.length = n1 by rw [Array.length_toList]; exact hA] at e0
          show (splice (splice z.cells.toList 0 A.toList) n1 B.toList).toArray = A ++ B
          rw [e0, splice_at A.toList _ B.toList n1 (by rw [Array.length_toList]; exact hA), List.drop_drop, List.drop_of_length_le (by rw [hzl, Array.length_toList]; omega), List.append_nil]
          rw [← Array.toList_inj]
          simp
        | _ => cases hf
theorem built_one {t : TypeId} {n : Nat} (hz : (P.info? t).map (fun i => i.zero.map (fun z => z.cells.size)) = some (some n))
    (hf : (match P.underlying t with | some (.struct fields) => fields.toList.mapM (fun f => (P.info? f.type).map fun i => (f.offset, i.size)) | _ => none) = some [(0, n)])
    (A : Array Value) (hA : A.size = n) : P.built t [(0, .agg A)] = some A := by
  cases hi : P.info? t with
  | none => rw [hi] at hz; cases hz
  | some it =>
    rw [hi] at hz
    cases hzz : it.zero with
    | none => rw [Option.map_some, hzz] at hz; cases hz
    | some z =>
      rw [Option.map_some, hzz, Option.map_some, Option.some.injEq, Option.some.injEq] at hz
      cases hu : P.underlying t with
      | none => rw [hu] at hf; cases hf
      | some d =>
        rw [hu] at hf
        cases d with
        | struct fields =>
          refine built_struct hi hu hzz hf ?_
          have hzl : z.cells.toList.length = n := by rw [Array.length_toList]; exact hz
          rw [fill_put (v := .agg A) (off := 0) (size := n) rfl hA (by omega)]
          rw [fill_nil]
          refine congrArg some ?_
          have e0 := splice_at [] z.cells.toList A.toList 0 rfl
          rw [List.nil_append, List.nil_append] at e0
          show (splice z.cells.toList 0 A.toList).toArray = A
          rw [e0, List.drop_of_length_le (by rw [hzl, Array.length_toList]; omega), List.append_nil]
        | _ => cases hf
section
variable {md : Region.Mode} {Q : Exit → Act → World → Prop} {S : World → Prop}
theorem wpAnyH_mono {ops : Array Oper} {S S' : World → Prop} (h : ∀ w, S' w → S w) : ∀ (fuel : Nat) (listed : Array Bool) (a : Act) (w : World), wpAnyH P md ops Q S' fuel listed a w → wpAnyH P md ops Q S fuel listed a w
  | 0, _, _, _, H => H
  | fuel + 1, _, _, _, H => ⟨H.1, fun i hi => wpOp_mono (fun a' w' h' => ⟨h _ h'.1, wpAnyH_mono h fuel _ a' w' h'.2⟩) (H.2 i hi)⟩
def mid2Ok (md : Region.Mode) (ops : Array Oper) (m : Nat) (idx2 tail : List Nat) : List Nat → Array Bool → Bool
  | [], listed => decide (Region.ready md ops listed = [m]) && headsOk md ops tail idx2 (listed.setIfInBounds m true)
  | i :: rest, listed => Region.free md ops listed i && (Region.ready md ops listed).contains i && mid2Ok md ops m idx2 tail rest (listed.setIfInBounds i true)
def midNext (P : Program) (Q : Exit → Act → World → Prop) (l : List Oper) (m : Nat) (R : Act → World → Prop) (a : Act) (w : World) : Prop :=
  ∃ o, l[m]? = some o ∧ o.guard = none ∧ ∀ K : Act → World → Prop, (∀ a w', R a w' → K a w') → o.wp P a w K Q
theorem any_of_mid2 {l : List Oper} {m : Nat} {idx2 tail : List Nat} {w : World} {S2 : World → Prop} (hmono : ∀ w, S2 w → S w) (hsel : Region.noSelect l.toArray = true) (hQ : ∀ c a d v w, Q (.panic c) (a.put d v) w → Q (.panic c) a w) (hS : S w) :
    ∀ (idx : List Nat) (listed : Array Bool) (a : Act), mid2Ok md l.toArray m idx2 tail idx listed = true →
      heads P S (fun a => midNext P Q l m (fun a w' => S2 w' ∧ heads P S2 (fun a => chain P Q S2 l tail a w') l idx2 a) a w) l idx a → wpAnyH P md l.toArray Q S (idx.length + (1 + (idx2.length + tail.length))) listed a w
  | [], listed, a, hB, h => by
    simp only [mid2Ok, Bool.and_eq_true, decide_eq_true_eq] at hB
    obtain ⟨o, ho, hg, hw⟩ := h
    rw [List.length_nil, Nat.zero_add, Nat.add_comm]
    refine wpAnyH_all hB.1 (by simp) ?_
    intro j hj
    have hji : j = m := by simpa using hj
    subst hji
    have ho' : l.toArray[j]? = some o := by simpa using ho
    unfold wpOp
    rw [ho']
    show if Region.wanted o (yielded l.toArray a.tmps) = true then _ else _
    rw [if_pos (by simp [Region.wanted, hg])]
    refine .inl (hw _ fun a w' hc => ⟨hmono _ hc.1, ?_⟩)
    exact wpAnyH_mono hmono _ _ _ _ (any_of_heads hsel hQ hc.1 idx2 _ a hB.2 hc.2)
  | i :: rest, listed, a, hB, h => by
    simp only [mid2Ok, Bool.and_eq_true] at hB
    obtain ⟨o, ho, v, hy, hr⟩ := h
    rw [List.length_cons, show rest.length + 1 + (1 + (idx2.length + tail.length)) = rest.length + (1 + (idx2.length + tail.length)) + 1 by omega]
    exact wpAnyH_take (by simpa using ho) hsel hB.1.1 hB.1.2 (fun c a w => hQ c a _ v w) hy hS (any_of_mid2 hmono hsel hQ hS rest _ _ hB.2 hr)
theorem wp_region_mid2 {id : Nat} {a : Act} {w : World} {l : List Oper} (S S2 : World → Prop) (idx : List Nat) (m : Nat) (idx2 tail : List Nat) (hm : P.follows .mixedOrders = true) (hsel : Region.noSelect l.toArray = true) (hn : l.length = idx.length + (1 + (idx2.length + tail.length)))
    (hB : mid2Ok .any l.toArray m idx2 tail idx (Array.replicate l.length false) = true) (hmono : ∀ w, S2 w → S w) (hS : S w.drew)
    (h : heads P S (fun a => midNext P (NoPanic Q) l m (fun a w' => S2 w' ∧ heads P S2 (fun a => chain P (NoPanic Q) S2 l tail a w') l idx2 a) a w.drew) l idx a) : (Code.region id l.toArray true).wp P Q a w := by
  refine wp_region_noPanic (wp_region_held (S := S) hm ?_)
  have H := any_of_mid2 (Q := NoPanic Q) hmono hsel (fun _ _ _ _ _ h => h) hS idx _ _ hB h
  rw [← hn] at H
  have e : l.toArray.size = l.length := List.size_toArray
  rw [e]
  exact H
theorem midNext_of {l : List Oper} {m : Nat} {R : Act → World → Prop} {a : Act} {w : World} {o : Oper} (ho : l[m]? = some o) (hg : o.guard = none) (h : ∀ K : Act → World → Prop, (∀ a w', R a w' → K a w') → o.wp P a w K Q) : midNext P Q l m R a w := ⟨o, ho, hg, h⟩
end
end Kit
end Go.Proofs.YtmcbnhkcjhlbaaaGreatDoor
end
section
namespace Go.Proofs.YtmcbnhkcjhlbaaaGreatDoor
open Go.RowKit
open Kit (Chg)
open Sha (v)
open Go.Proofs.YtmcbnhkcjhlbaaaGreatDoor.One

structure Laid (w : World) : Prop where
  kon : KonAt w
  init : InitAt w
  pad0 : w.cell? ⟨2, 0, none⟩ = some (.int .u8 54)
  pad1 : w.cell? ⟨2, 1, none⟩ = some (.int .u8 92)
theorem Laid.later {w w' : World} {B : Nat} (h : Laid w) (hb : Below B w w') (hB : w.heap.size ≤ B) : Laid w' :=
  have hb2 := hb.mono hB
  ⟨h.kon.later hb2, h.init.later hb2, (hb2.cell (World.block_lt_of_cell? w _ h.pad0)).trans h.pad0, (hb2.cell (World.block_lt_of_cell? w _ h.pad1)).trans h.pad1⟩
theorem Laid.drew {w : World} (h : Laid w) : Laid w.drew := ⟨h.kon, h.init, h.pad0, h.pad1⟩

theorem wpList_copy_string {P : Program} {w : World} {ops : Array Oper} {rest : List Oper} {o : Oper} {a : Act} {Q : Exit → Act → World → Prop} (hgd : o.guard = none) (d s : Operand) (dT sT : TypeId)
    (ho : o.op = .call { callee := .builtin .copy, args := #[d, s], argTypes := #[dT, sT] }) (elem : TypeId) (hu : P.underlying dT = some (.slice elem)) (hsz : (P.info? elem).map (·.size) = some 1)
    (g off dLen dCap : Nat) (str : ByteArray) (hd : a.eval d = .slice (some ⟨g, off, none⟩) dLen dCap) (hs : a.eval s = .string str)
    (cur : Array Value) (t : TypeId) (hg : w.heap[g]? = some (.cells cur t (0, 0))) (hle : str.size ≤ dLen) (hfit : off + str.size ≤ cur.size) (new : Array Value)
    (hnew : (cur.toList.take off ++ Go.Lib.byteCells str.data.toList ++ cur.toList.drop (off + str.size)).toArray = new)
    (h : wpList P ops Q rest (a.put o.dst (goInt str.size)) (w.setRow g new)) : wpList P ops Q (o :: rest) a w := by
  refine wpList_plain hgd fun K hK => ?_
  have hrun := Go.Lib.run_copy_row_string (P := P) w dT sT o.type elem g off dLen dCap str cur t hu hsz hg hle hfit
  rw [hnew] at hrun
  unfold Oper.wp
  simp [execOp, ho, resolve, invoke, builtin, hd, hs, hrun, Result.andThen]
  exact hK _ _ h
theorem byteCells_bvals (s : ByteArray) : Go.Lib.byteCells s.data.toList = bvals (nb s) := by
  unfold Go.Lib.byteCells bvals nb
  rw [List.map_map]
  rfl
def zero64 : Array Value := (bvals (List.replicate 64 0)).toArray
theorem zero64_new (w : World) : (w.alloc (.cells zero64 162)).heap[w.heap.size]? = some (.cells zero64 162 (0, 0)) := heap_alloc_new _ _
theorem key64_row (key : ByteArray) (h : key.size ≤ 64) : (zero64.toList.take 0 ++ Go.Lib.byteCells key.data.toList ++ zero64.toList.drop (0 + key.size)).toArray = (bvals (key64 (nb key))).toArray := by
  have hz : zero64.toList = List.replicate 64 (Value.int .u8 0) := by simp [zero64, bvals]
  rw [hz, byteCells_bvals, List.take_zero, List.nil_append, Nat.zero_add, List.drop_replicate]
  unfold key64
  rw [bvals_append, nb_length]
  congr 2
  simp [bvals]
theorem load_cells_yield {P : Program} {o : Oper} {a : Act} {w : World} (ty : TypeId) (x : Operand) (ho : o.op = .load ty x)
    (g off : Nat) (hx : a.eval x = .pointer (some ⟨g, off, none⟩)) (cs : List Value) (hc : ∀ j u, cs[j]? = some u → w.cell? ⟨g, off + j, none⟩ = some u) (d : TypeDesc)
    (hu : P.underlying ty = some d) (hd : (match d with | .struct _ | .array _ _ => true | _ => false) = true) (hi : (P.info? ty).map (·.size) = some cs.length) (R : Array Value) (hR : cs.toArray = R) :
    (execOp a.eval o).run P w = .ok (.value (.agg R)) w := by
  subst hR
  have hl : (loadCells ⟨g, off, none⟩ cs.length).run P w = .ok cs.toArray w :=
    run_loadCells_list (P := P) w ⟨g, off, none⟩ cs (fun j v hv => by rw [add_none]; exact hc j v hv)
  have hrun : (loadVar ty ⟨g, off, none⟩).run P w = .ok (.agg cs.toArray) w := by
    cases hq : P.info? ty with
    | none => simp [hq] at hi
    | some i =>
      have hs : i.size = cs.length := by simpa [hq] using hi
      have hagg : (isAgg ty).run P w = .ok true w := by
        unfold isAgg
        rw [Sem.run_bind, run_underlying hu w]
        cases d <;> simp_all
      simp [loadVar, Sem.run_bind, hagg, sizeOf, typeInfo, hq, hs, hl]
  unfold execOp
  simp only [ho, hx, Instr.loadAt, Instr.sureAddr, Sem.run_bind, Sem.run_pure, Result.andThen_ok, hrun]

structure MacAt (w : World) (g : Nat) (K ps : List Nat) : Prop where
  state : StateAt w g 0 (xorL K 54 ++ ps)
  outer : BytesAt w (some ⟨g, 73, none⟩) (xorL K 92)
theorem MacAt.later {w w' : World} {g : Nat} {K ps : List Nat} (h : MacAt w g K ps) (hb : Below w.heap.size w w') : MacAt w' g K ps := ⟨h.state.later hb, h.outer.later hb⟩
theorem state_pre {w : World} {N : Nat} {t : TypeId} {RO : Array Value} (hg : w.heap[N]? = some (.cells (stateRow ++ RO) t (0, 0))) : StateAt w N 0 [] := by
  have hc : ∀ i u, stateRow[i]? = some u → w.cell? ⟨N, i, none⟩ = some u := fun i u h => by
    rw [cell_of_row _ _ _ _ _ _ hg, Array.getElem?_append_left (Array.getElem?_eq_some_iff.1 h).1]; exact h
  refine ⟨⟨_, t, hg, by rw [Array.size_append, stateRow_size]; omega⟩, fun i hi => by rw [Nat.zero_add]; exact hc i _ (init_cells i hi), fun i hi => ⟨0, by omega, by rw [Nat.zero_add]; exact hc _ _ (stateRow_at i hi)⟩, fun i hi => by simp at hi, by rw [Nat.zero_add]; exact hc 72 _ rfl, by simp⟩
theorem row_bytes {w : World} {N o : Nat} {t : TypeId} {A RO : Array Value} {bs : List Nat} (hg : w.heap[N]? = some (.cells (A ++ RO) t (0, 0))) (hA : A.size = o) (hR : (bvals bs).toArray = RO) (hb : ∀ x ∈ bs, x < 256) (hl : bs.length ≤ maxLen) : BytesAt w (some ⟨N, o, none⟩) bs := by
  subst hR
  refine ⟨.inr ⟨N, o, rfl, fun i hi => ?_⟩, hb, hl⟩
  rw [cell_of_row _ _ _ _ _ _ hg, Array.getElem?_append_right (by omega), hA, Nat.add_sub_cancel_left, List.getElem?_toArray]
  simp [bvals, hi]
theorem row_bytes0 {w : World} {N : Nat} {t : TypeId} {RO : Array Value} {bs : List Nat} (hg : w.heap[N]? = some (.cells RO t (0, 0))) (hR : (bvals bs).toArray = RO) (hb : ∀ x ∈ bs, x < 256) (hl : bs.length ≤ maxLen) : BytesAt w (some ⟨N, 0, none⟩) bs :=
  row_bytes (A := #[]) (by rw [Array.empty_append]; exact hg) rfl hR hb hl
theorem bytesAt_keep {w w' : World} {b o : Nat} {bs : List Nat} {M : Nat → Nat → Prop} (h : BytesAt w (some ⟨b, o, none⟩) bs) (hc : Chg M w w') (hM : ∀ i, o ≤ i → ¬ M b i) : BytesAt w' (some ⟨b, o, none⟩) bs := by
  refine ⟨?_, h.2⟩
  rcases h.1 with e | ⟨b', o', e, hcell⟩
  · exact .inl e
  · cases e
    exact .inr ⟨_, _, rfl, fun i hi => hc.cell (hcell i hi) (hM _ (by omega))⟩
theorem MacAt.keep {w w' : World} {g : Nat} {K ps : List Nat} {M : Nat → Nat → Prop} (h : MacAt w g K ps) (hc : Chg M w w') (hM : ∀ i, ¬ M g i) : MacAt w' g K ps := ⟨h.state.keep hc (fun i _ _ => hM i), bytesAt_keep h.outer hc (fun i _ => hM i)⟩
theorem Tryz.b146z : (Tryz.prog.info? 269).map (fun i => i.zero.map (fun z => z.cells.size)) = some (some (73 + 64)) := by kernel_rfl
theorem Tryz.b146f : (match Tryz.prog.underlying 269 with | some (.struct fields) => fields.toList.mapM (fun f => (Tryz.prog.info? f.type).map fun i => (f.offset, i.size)) | _ => none) = some [(0, 73), (73, 64)] := by kernel_rfl
theorem Tryz.b148z : (Tryz.prog.info? 271).map (fun i => i.zero.map (fun z => z.cells.size)) = some (some 137) := by kernel_rfl
theorem Tryz.b148f : (match Tryz.prog.underlying 271 with | some (.struct fields) => fields.toList.mapM (fun f => (Tryz.prog.info? f.type).map fun i => (f.offset, i.size)) | _ => none) = some [(0, 137)] := by kernel_rfl

theorem padc_54 (kb : Nat) (ks : List Nat) (hk : ks.length = 64) (hb : ∀ x ∈ ks, x < 256) (w : World) (hK : w.heap[kb]? = some (.cells (bvals ks).toArray 162 (0, 0))) :
    Calls Tryz.prog 160 #[.int .u8 54, .pointer (some ⟨kb, 0, none⟩)] w fun e w' => e = .returned (.agg (bvals (xorL ks 54)).toArray) ∧ Below w.heap.size w w' := padc_any kb ks 54 hk hb (by decide) w hK
set_option maxRecDepth 100000 in
set_option maxHeartbeats 1000000 in
theorem macNew_any (key : ByteArray) (hk : key.size ≤ 64) (w : World) (hL : Laid w) :
    Calls Tryz.prog 113 #[.string key] w fun e w' => ∃ g, e = .returned (.pointer (some ⟨g, 0, none⟩)) ∧ w.heap.size ≤ g ∧ MacAt w' g (key64 (nb key)) [] ∧ Below w.heap.size w w' := by
  have HL := Lib.hid hL
  have HK := Lib.hid hk
  have h64 : ¬ (64 : Int) < (key.size : Int) := by omega
  have hsa := sliceB_all w.heap.size 0
  clear hL hk
  go_enter Tryz.func113, Tryz.ntmps113
  go_upto_region 4 with fail
  go_upto_region 5 with (first
    | (refine wpList_copy_string rfl (.tmp 13) (.tmp 14) 52 9 rfl 5 Tryz.underlying52 (by kernel_rfl) w.heap.size 0 64 64 key (by rfl) (by rfl) zero64 162 (by exact zero64_new w) HK.out (by have := HK.out; show 0 + key.size ≤ 64; omega) _ (key64_row key HK.out) ?_))
  refine wp_over (fun W => Hid (W.heap[w.heap.size]? = some (.cells (bvals (key64 (nb key))).toArray 162 (0, 0))) ∧ Hid (Below w.heap.size w W) ∧ Hid (w.heap.size < W.heap.size)) ⟨?_, ?_, ?_⟩ ?_
  · exact setRow_heap _ _ _ _ _ _ (zero64_new w)
  · exact below_setRow ((Below.refl _ _).alloc (Nat.le_refl _) _) (Nat.le_refl _) _
  · show _ < _; simp [World.setRow]
  rintro V ⟨HV, HBV, HSV⟩
  obtain ⟨N, hN⟩ := ex_eq w.heap.size
  rw [hN] at HV HBV HSV hsa ⊢
  have HN := Lib.hid hN
  clear hN hsa
  have HLV : Hid (Laid V) := Lib.hid (HL.out.later HBV.out (by rw [HN.out]; exact Nat.le_refl _))
  have hk64 := key64_length (ks := nb key) (by rw [nb_length]; exact HK.out)
  have hkb := key64_lt (nb_lt key)
  obtain ⟨KS, hKS⟩ := ex_eq (key64 (nb key))
  rw [hKS] at HV hk64 hkb
  have HK64 := Lib.hid hk64
  have HKB := Lib.hid hkb
  have HKS := Lib.hid hKS
  clear hk64 hkb hKS
  go_upto_region 6 with fail
  obtain ⟨M, hM⟩ := ex_eq V.heap.size
  have HM : Hid (V.drew.heap.size = M) := hM
  rw [hM] at HSV
  clear hM
  have c0 : V.drew.cell? ⟨2, 0, none⟩ = some (.int .u8 54) := HLV.out.pad0
  have c1 : V.drew.cell? ⟨2, 1, none⟩ = some (.int .u8 92) := HLV.out.pad1
  have HLD : Hid (Laid V.drew) := Lib.hid HLV.out.drew
  have HKD : Hid (V.drew.heap[N]? = some (.cells (bvals KS).toArray 162 (0, 0))) := HV
  refine Kit.wp_region_mid2 (fun W => W.cell? ⟨2, 0, none⟩ = some (.int .u8 54) ∧ W.cell? ⟨2, 1, none⟩ = some (.int .u8 92))
    (fun W => (W.cell? ⟨2, 0, none⟩ = some (.int .u8 54) ∧ W.cell? ⟨2, 1, none⟩ = some (.int .u8 92)) ∧ Hid (∀ j u, stateRow.toList[j]? = some u → W.cell? ⟨M, 0 + j, none⟩ = some u))
    [3, 4, 5] 0 [1, 2] [6, 7, 8, 9, 10] (by kernel_rfl) (by kernel_rfl) (by kernel_rfl) (by kernel_rfl) (fun _ h => h.1) ⟨c0, c1⟩ ?_
  repeat (refine Kit.heads_cons (by rfl) (.inl ⟨by rfl, fun w' hS => by (dsimp only at hS); go_simp; (try with_reducible rfl)⟩) ?_; simp only [Act.put, List.setIfInBounds_toArray, List.set_cons_zero, List.set_cons_succ])
  refine Kit.heads_nil ?_
  refine Kit.midNext_of (by rfl) rfl fun K hK => ?_
  go_simp
  go_at_call 36
  refine (newState_any _ HLD.out.init).mono ?_
  rintro e w1 ⟨rfl, h1⟩
  have H1 : Hid (w1 = V.drew.alloc (.cells stateRow 172)) := Lib.hid h1
  clear h1
  have hMM : V.drew.heap.size = M := HM.out
  rw [hMM]
  have HG1 : Hid (w1.heap[M]? = some (.cells stateRow 172 (0, 0))) := Lib.hid (by rw [H1.out, ← hMM]; exact heap_alloc_new _ _)
  have HB1 : Hid (Below M V.drew w1) := Lib.hid (by rw [H1.out, ← hMM]; exact (Below.refl _ _).alloc (Nat.le_refl _) _)
  clear hMM
  have HS1 : Hid (M < w1.heap.size) := Lib.hid (Array.getElem?_eq_some_iff.1 HG1.out).1
  have HL1 : Hid (Laid w1) := Lib.hid (HLD.out.later HB1.out (by rw [HM.out]; exact Nat.le_refl _))
  have HK1 : Hid (w1.heap[N]? = some (.cells (bvals KS).toArray 162 (0, 0))) := Lib.hid ((HB1.out.block N (by have := HSV.out; omega)).trans HKD.out)
  have hS1 : (w1.cell? ⟨2, 0, none⟩ = some (.int .u8 54) ∧ w1.cell? ⟨2, 1, none⟩ = some (.int .u8 92)) ∧ Hid (∀ j u, stateRow.toList[j]? = some u → w1.cell? ⟨M, 0 + j, none⟩ = some u) :=
    ⟨⟨HL1.out.pad0, HL1.out.pad1⟩, fun j u hj => by rw [Nat.zero_add, cell_of_row _ _ _ _ _ _ HG1.out, ← Array.getElem?_toList]; exact hj⟩
  refine hK _ _ ⟨hS1, ?_⟩
  clear hK K c0 c1
  refine Kit.heads_cons (by rfl) (.inl ⟨by rfl, fun w' hS => by (dsimp only at hS); go_simp; (try with_reducible rfl)⟩) ?_
  simp only [Act.put, List.setIfInBounds_toArray, List.set_cons_zero, List.set_cons_succ]
  refine Kit.heads_cons (by rfl) (.inl ⟨by rfl, fun w' hS => load_cells_yield 172 (.tmp 18) rfl M 0 (by rfl) stateRow.toList hS.2.out _ Tryz.underlying172 rfl (by rw [Array.length_toList, stateRow_size]; exact Tryz.size143) stateRow (by simp)⟩) ?_
  simp only [Act.put, List.setIfInBounds_toArray, List.set_cons_zero, List.set_cons_succ]
  refine Kit.heads_nil ?_
  refine Kit.chain_cons (by rfl) rfl fun K hK => ?_
  go_simp
  go_at_call 160
  refine (padc_any N KS 92 HK64.out HKB.out (by decide) w1 HK1.out).mono ?_
  rintro e w2 ⟨rfl, h2⟩
  have HB2 : Hid (Below (M + 1) w1 w2) := Lib.hid (h2.mono HS1.out)
  clear h2
  have HROs : Hid ((bvals (xorL KS 92)).toArray.size = 64) := Lib.hid (bvals_arr_size _ (by rw [xorL_length]; exact HK64.out))
  obtain ⟨RO, hRO⟩ := ex_eq (bvals (xorL KS 92)).toArray
  rw [hRO] at HROs ⊢
  have HRO := Lib.hid hRO
  clear hRO
  have HSA : Hid (∀ W, Below (M + 1) w1 W → (W.cell? ⟨2, 0, none⟩ = some (.int .u8 54) ∧ W.cell? ⟨2, 1, none⟩ = some (.int .u8 92)) ∧ Hid (∀ j u, stateRow.toList[j]? = some u → W.cell? ⟨M, 0 + j, none⟩ = some u)) := Lib.hid (fun W hW => by
    have hL : Laid W := HLD.out.later (HB1.out.trans (hW.mono (Nat.le_succ M))) (by rw [HM.out]; exact Nat.le_refl _)
    have hG : W.heap[M]? = some (.cells stateRow 172 (0, 0)) := (hW.block M (Nat.lt_succ_self M)).trans HG1.out
    exact ⟨⟨hL.pad0, hL.pad1⟩, fun j u hj => by rw [Nat.zero_add, cell_of_row _ _ _ _ _ _ hG, ← Array.getElem?_toList]; exact hj⟩)
  refine hK _ _ (HSA.out _ HB2.out) ?_
  clear hK K hS1
  refine Kit.chain_cons (by rfl) rfl fun K hK => ?_
  refine Kit.wp_build_list 269 [(0, Operand.tmp 19), (1, Operand.tmp 23)] (by rfl) (stateRow ++ RO) (by exact Kit.built_two Tryz.b146z Tryz.b146f stateRow RO stateRow_size HROs.out) ?_
  refine hK _ _ (HSA.out _ HB2.out) ?_
  clear hK K
  simp only [Act.put, List.setIfInBounds_toArray, List.set_cons_zero, List.set_cons_succ]
  have HRS : Hid ((stateRow ++ RO).size = 137) := Lib.hid (by rw [Array.size_append, stateRow_size, HROs.out])
  refine Kit.chain_cons (by rfl) rfl fun K hK => ?_
  refine Kit.wp_build_list 271 [(0, Operand.tmp 24)] (by rfl) (stateRow ++ RO) (by exact Kit.built_one Tryz.b148z Tryz.b148f _ HRS.out) ?_
  refine hK _ _ (HSA.out _ HB2.out) ?_
  clear hK K
  simp only [Act.put, List.setIfInBounds_toArray, List.set_cons_zero, List.set_cons_succ]
  refine Kit.chain_cons (by rfl) rfl fun K hK => ?_
  go_simp
  have HB3 : Hid (Below (M + 1) w1 (w2.alloc (.cells (stateRow ++ RO) 271))) := Lib.hid (HB2.out.alloc (by have := HS1.out; have := HB2.out.size; omega) _)
  refine hK _ _ (HSA.out _ HB3.out) ?_
  clear hK K
  refine Kit.chain_cons (by rfl) rfl fun K hK => ?_
  go_simp
  refine hK _ _ (HSA.out _ HB3.out) ?_
  clear hK K
  refine Kit.chain_done ?_
  have hG : (w2.alloc (.cells (stateRow ++ RO) 271)).heap[w2.heap.size]? = some (.cells (stateRow ++ RO) 271 (0, 0)) := heap_alloc_new _ _
  obtain ⟨G, hGe⟩ := ex_eq w2.heap.size
  obtain ⟨w3, hw3⟩ := ex_eq (w2.alloc (.cells (stateRow ++ RO) 271))
  rw [hw3, hGe] at hG
  rw [hw3] at HB3 ⊢
  rw [hGe]
  have HMG : Hid (M + 1 ≤ G) := Lib.hid (by have := HS1.out; have := HB2.out.size; omega)
  have HG3 : Hid (w3.heap[G]? = some (.cells (stateRow ++ RO) 271 (0, 0))) := hG
  have HGS : Hid (G + 1 ≤ w3.heap.size) := Lib.hid (Array.getElem?_eq_some_iff.1 hG).1
  clear hG hGe hw3
  have HN3 : Hid (w3.heap[N]? = some (.cells (bvals KS).toArray 162 (0, 0))) := Lib.hid ((HB3.out.block N (by have := HSV.out; omega)).trans HK1.out)
  have HL3 : Hid (Laid w3) := Lib.hid (HLD.out.later (HB1.out.trans (HB3.out.mono (Nat.le_succ M))) (by rw [HM.out]; exact Nat.le_refl _))
  have HBN3 : Hid (Below N w w3) := Lib.hid (HBV.out.trans ((Below.refl N V).drew.trans ((HB1.out.trans (HB3.out.mono (Nat.le_succ M))).mono (by have := HSV.out; omega))))
  clear HSA HB3 HB2 HB1 HG1 H1 HKD HLD HK1 HL1
  (try simp only [Act.put, List.setIfInBounds_toArray, List.set_cons_zero, List.set_cons_succ])
  have d0 : w3.cell? ⟨2, 0, none⟩ = some (.int .u8 54) := HL3.out.pad0
  have HRIs : Hid ((bvals (xorL KS 54)).toArray.size = 64) := Lib.hid (bvals_arr_size _ (by rw [xorL_length]; exact HK64.out))
  have HRI1 : Hid ((bvals (xorL KS 54)).toArray.all (·.oneCell') = true) := Lib.hid (all_one (bvals_one _))
  obtain ⟨RI, hRI⟩ := ex_eq (bvals (xorL KS 54)).toArray
  rw [hRI] at HRIs HRI1
  have HRI := Lib.hid hRI
  clear hRI
  go_upto_region 7 with fail
  go_upto_region 8 with (first
    | (go_at_call 160; (with_reducible refine (padc_54 N KS HK64.out HKB.out w3 HN3.out).mono ?_); rintro e w4 ⟨rfl, h4⟩; (rw [HRI.out]); (have HB4 := Lib.hid h4); clear h4)
    | (refine wpList_store_row rfl 162 (.tmp 6) (.tmp 30) rfl w4.heap.size RI (by rfl) (by rfl) 162 zero64 (by exact zero64_new w4) (by rw [HRIs.out]; exact Tryz.size140) (by rw [HRIs.out]; rfl) HRI1.out ?_))
  refine wp_over (fun W => Hid (W.heap[w4.heap.size]? = some (.cells RI 162 (0, 0))) ∧ Hid (Below w3.heap.size w3 W)) ⟨?_, ?_⟩ ?_
  · exact setRow_heap _ _ _ _ _ _ (zero64_new w4)
  · exact below_setRow (HB4.out.alloc HB4.out.size _) HB4.out.size _
  rintro w5 ⟨HI5, HB5⟩
  have HIG : Hid (G + 1 ≤ w4.heap.size) := Lib.hid (by have := HB4.out.size; have := HGS.out; omega)
  obtain ⟨I, hI⟩ := ex_eq w4.heap.size
  rw [hI] at HI5 HIG ⊢
  clear hI HB4 d0
  simp only [Act.put]
  have HS5 : Hid (StateAt w5 G 0 []) := Lib.hid (state_pre ((HB5.out.block G (by have := HGS.out; omega)).trans HG3.out))
  have HO5 : Hid (BytesAt w5 (some ⟨G, 73, none⟩) (xorL KS 92)) := Lib.hid (row_bytes ((HB5.out.block G (by have := HGS.out; omega)).trans HG3.out) stateRow_size HRO.out (xorL_lt _ _ HKB.out (by decide)) (by rw [xorL_length, HK64.out]; decide))
  have HI6 : Hid (BytesAt w5 (some ⟨I, 0, none⟩) (xorL KS 54)) := Lib.hid (row_bytes0 HI5.out HRI.out (xorL_lt _ _ HKB.out (by decide)) (by rw [xorL_length, HK64.out]; decide))
  have HL5 : Hid (Laid w5) := Lib.hid (HL3.out.later HB5.out (Nat.le_refl _))
  have HBN5 : Hid (Below N w w5) := Lib.hid (HBN3.out.trans (HB5.out.mono (by have := HGS.out; have := HMG.out; have := HSV.out; omega)))
  have HX54 : Hid ((xorL KS 54).length = 64) := Lib.hid (by rw [xorL_length]; exact HK64.out)
  obtain ⟨XI, hXI⟩ := ex_eq (xorL KS 54)
  rw [hXI] at HI6 HX54
  have HXI := Lib.hid hXI
  clear hXI HRI HRIs HRI1 HRO HROs HRS HI5 HG3 HN3 HL3 HBN3
  have hsi := sliceB_all I 0
  refine Kit.wp_region_heads (fun _ => True) [0, 1, 2, 3, 4] [5] (by kernel_rfl) (by kernel_rfl) (by kernel_rfl) (by kernel_rfl) trivial ?_
  repeat (refine Kit.heads_cons (by rfl) (.inl ⟨by rfl, fun w' hS => by (dsimp only at hS); go_simp; (try with_reducible rfl)⟩) ?_; simp only [Act.put, List.setIfInBounds_toArray, List.set_cons_zero, List.set_cons_succ])
  refine Kit.heads_nil ?_
  refine Kit.chain_cons (by rfl) rfl fun K hK => ?_
  go_simp
  go_at_call 37
  have hwr := write_any G 0 [] (some ⟨I, 0, none⟩) 64 XI (by rw [HX54.out]; exact Nat.le_refl _) (fun e => by cases e) (by rw [HX54.out]; decide) w5.drew (HS5.out.keep (Chg.drew (Chg.refl (fun _ _ => False) _)) (fun _ _ _ h => h)) HI6.out (fun ad e _ => by cases e; show I ≠ G; have := HIG.out; omega) HL5.out.drew.kon (by have := HMG.out; show G ≠ 1; have := HL5.out.kon.lt; have := HL.out.kon.lt; have := HN.out; have := HSV.out; omega)
  rw [HX54.out] at hwr
  refine hwr.mono ?_
  rintro e w6 ⟨rfl, h6, h7⟩
  have H6 := Lib.hid h6
  have H7 := Lib.hid h7
  clear h6 h7 hwr hsi
  refine hK _ _ trivial (Kit.chain_done ?_)
  clear hK K
  (try simp only [Act.put, List.setIfInBounds_toArray, List.set_cons_zero, List.set_cons_succ])
  go_wp2_with fail
  go_ret
  refine ⟨G, rfl, by have := HN.out; have := HMG.out; have := HSV.out; omega, ⟨by rw [HKS.out, HXI.out, List.append_nil]; exact H6.out, by rw [HKS.out]; exact bytesAt_keep (w := w5.drew) HO5.out H7.out (fun i hi hm => by have := hm.2.2; omega)⟩, ?_⟩
  rw [HN.out]
  exact HBN5.out.trans ((Below.refl N w5).drew.trans (H7.out.below (by have := HS5.out.lt; have := HMG.out; have := HSV.out; show N ≤ w5.heap.size; omega) (fun k i hk hm => by have := hm.1; have := HMG.out; have := HSV.out; omega)))

theorem macWrite_any (g : Nat) (K ps : List Nat) (a : Option Addr) (cap : Nat) (xs : List Nat) (hcap : xs.length ≤ cap) (hnil : a = none → cap = 0) (hl : ps.length + xs.length ≤ 1000000) (hK : K.length = 64) (w : World) (h : MacAt w g K ps) (hB : BytesAt w a xs) (hlt : ∀ ad, a = some ad → 0 < xs.length → ad.block ≠ g) (hL : Laid w) (hg : g ≠ 1) :
    Calls Tryz.prog 114 #[.pointer (some ⟨g, 0, none⟩), .slice a xs.length cap] w fun e w' => e = .returned (.tuple #[]) ∧ MacAt w' g K (ps ++ xs) ∧ Chg (stateCells g 0) w w' := by
  have HH := Lib.hid h
  have HB := Lib.hid hB
  have HL := Lib.hid hL
  have HLT := Lib.hid hlt
  have HXL : Hid ((xorL K 54).length = 64) := Lib.hid (by rw [xorL_length]; exact hK)
  clear h hB hL hlt hK
  go_enter Tryz.func114, Tryz.ntmps114
  go_wp2_with (first
    | (with_reducible refine (write_any g 0 (xorL K 54 ++ ps) a cap xs hcap hnil (by rw [List.length_append, HXL.out]; omega) _ HH.out.state HB.out HLT.out HL.out.kon hg).mono ?_
       rintro e w2 ⟨rfl, h2, h3⟩
       have H2 := Lib.hid h2
       have H3 := Lib.hid h3
       clear h2 h3))
  go_end0
  exact ⟨rfl, ⟨by rw [← List.append_assoc]; exact H2.out, bytesAt_keep HH.out.outer H3.out (fun i hi hm => by have := hm.2.2; omega)⟩, H3.out⟩
theorem conv64 {W : World} {a : Option Addr} {bs : List Nat} (h : BytesAt W a bs) (hl : bs.length = 64) : (convert 52 9 (.slice a 64 64)).run Tryz.prog W = .ok (.string (strB bs)) W := by
  have := conv_bytes h 64
  rwa [hl] at this
set_option maxHeartbeats 1000000 in
theorem macSum_any (g : Nat) (K ps : List Nat) (hl : ps.length ≤ 1000000) (hK : K.length = 64) (w : World) (h : MacAt w g K ps) (hL : Laid w) :
    Calls Tryz.prog 115 #[.pointer (some ⟨g, 0, none⟩)] w fun e w' => ∃ bs : List Nat, e = .returned (.string (strB bs)) ∧ bs = Sha.sum (xorL K 92 ++ Sha.sum (xorL K 54 ++ ps)) ∧ Below w.heap.size w w' := by
  have HXL : Hid ((xorL K 54 ++ ps).length ≤ 100000000000) := Lib.hid (by rw [List.length_append, xorL_length]; omega)
  have HOL : Hid ((xorL K 92).length = 64) := Lib.hid (by rw [xorL_length]; exact hK)
  have HS : Hid (StateAt w.drew g 0 (xorL K 54 ++ ps)) := Lib.hid (h.state.keep (Chg.drew (Chg.refl (fun _ _ => False) _)) (fun _ _ _ h => h))
  have HO : Hid (BytesAt w.drew (some ⟨g, 73, none⟩) (xorL K 92)) := Lib.hid h.outer
  have HL := Lib.hid hL.drew
  obtain ⟨XI, hXI⟩ := ex_eq (xorL K 54 ++ ps)
  obtain ⟨XO, hXO⟩ := ex_eq (xorL K 92)
  rw [hXI] at HXL HS
  rw [hXO] at HOL HO
  have HXI := Lib.hid hXI
  have HXO := Lib.hid hXO
  clear h hL hXI hXO hK
  have hsi := sliceB_all g 73
  have hsw : w.drew.heap.size = w.heap.size := rfl
  have HSW := Lib.hid hsw
  clear hsw
  go_enter Tryz.func115, Tryz.ntmps115
  go_upto_region 1 with fail
  refine Kit.wp_region_heads (fun W => Hid (BytesAt W (some ⟨g, 73, none⟩) XO)) [0, 1, 2, 3, 4, 5, 6, 7, 8, 9] [10, 11, 12, 13] (by kernel_rfl) (by kernel_rfl) (by kernel_rfl) (by kernel_rfl) HO.out ?_
  iterate 5 (refine Kit.heads_cons (by rfl) (.inl ⟨by rfl, fun w' hS => by (dsimp only at hS); go_simp; (try with_reducible rfl)⟩) ?_; simp only [Act.put, List.setIfInBounds_toArray, List.set_cons_zero, List.set_cons_succ])
  refine Kit.heads_cons (by rfl) (.inl ⟨by rfl, fun w' hS => by have hcv := conv64 hS.out HOL.out; clear hS; go_simp; (try with_reducible rfl)⟩) ?_
  simp only [Act.put, List.setIfInBounds_toArray, List.set_cons_zero, List.set_cons_succ]
  repeat (refine Kit.heads_cons (by rfl) (.inl ⟨by rfl, fun w' hS => by (dsimp only at hS); go_simp; (try with_reducible rfl)⟩) ?_; simp only [Act.put, List.setIfInBounds_toArray, List.set_cons_zero, List.set_cons_succ])
  refine Kit.heads_nil ?_
  refine Kit.chain_cons (by rfl) rfl fun K0 hK0 => ?_
  go_simp
  go_at_call 38
  refine (stateSum_any g 0 XI HXL.out w.drew HS.out HL.out.kon).mono ?_
  rintro e w1 ⟨is, rfl, h1, h2⟩
  have H1 := Lib.hid h1
  have H2 := Lib.hid h2
  clear h1 h2
  refine hK0 _ _ (HO.out.later H2.out) ?_
  clear hK0 K0
  refine Kit.chain_cons (by rfl) rfl fun K0 hK0 => ?_
  go_simp
  have H3 : Hid (Below w.drew.heap.size w.drew (w1.alloc (.cells #[.string (strB XO), .string (strB is)] 9))) := Lib.hid (H2.out.alloc H2.out.size _)
  refine hK0 _ _ (HO.out.later H3.out) ?_
  clear hK0 K0
  refine Kit.chain_cons (by rfl) rfl fun K0 hK0 => ?_
  go_simp
  go_at_call 159
  have HST : Hid (StrsAt (w1.alloc (.cells #[.string (strB XO), .string (strB is)] 9)) (some ⟨w1.heap.size, 0, none⟩) [strB XO, strB is]) := Lib.hid (by
    refine .inr ⟨_, _, rfl, fun i hi => ?_⟩
    rw [Nat.zero_add, cell_of_row _ _ _ _ _ _ (heap_alloc_new _ _)]
    match i, hi with
    | 0, _ => rfl
    | 1, _ => rfl)
  have HIL : Hid (is.length = 32 ∧ ∀ x ∈ is, x < 256) := Lib.hid (by rw [H1.out]; exact ⟨Sha.sum_length _, Sha.sum_lt _⟩)
  have HOB : Hid (∀ x ∈ XO, x < 256) := HO.out.2.1
  have HCAT : Hid (catB [strB XO, strB is] = XO ++ is) := Lib.hid (by
    have := catB_strs [XO, is] (fun s hs => by
      rcases List.mem_cons.1 hs with e | hs
      · rw [e]; exact HOB.out
      · rw [List.mem_singleton.1 hs]; exact HIL.out.2)
    simpa using this)
  have hj := join_any (some ⟨w1.heap.size, 0, none⟩) 2 [strB XO, strB is] (by rw [HCAT.out, List.length_append, HOL.out, HIL.out.1]; decide) (by simp) _ HST.out (HL.out.later H3.out (Nat.le_refl _)).kon (HL.out.later H3.out (Nat.le_refl _)).init
  refine hj.mono ?_
  rintro e w2 ⟨bs, rfl, h4, h5⟩
  have H4 := Lib.hid h4
  have H5 := Lib.hid (H3.out.trans (h5.mono H3.out.size))
  clear h4 h5 hj
  refine hK0 _ _ (HO.out.later H5.out) ?_
  clear hK0 K0
  refine Kit.chain_cons (by rfl) rfl fun K0 hK0 => ?_
  go_simp
  refine hK0 _ _ (HO.out.later H5.out) (Kit.chain_done ?_)
  clear hK0 K0
  (try simp only [Act.put, List.setIfInBounds_toArray, List.set_cons_zero, List.set_cons_succ])
  go_wp2_with fail
  go_ret
  refine ⟨bs, rfl, by rw [H4.out, HCAT.out, H1.out, HXO.out, HXI.out], ?_⟩
  rw [← HSW.out]
  exact (Below.refl _ w).drew.trans H5.out

end Go.Proofs.YtmcbnhkcjhlbaaaGreatDoor
end
