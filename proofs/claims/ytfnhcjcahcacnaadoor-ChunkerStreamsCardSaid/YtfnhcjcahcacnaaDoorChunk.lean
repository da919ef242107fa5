/- Plain laws of content-defined chunking (chapter 16): no program is named here. -/
import Derived.Test.YtfnhcjcahcacnaaDoorOf
namespace Go.Proofs.YtfnhcjcahcacnaaDoor
namespace Chk

/-- A cutting. -/
structure Cut where
  mn : Nat
  mx : Nat
  win : Nat
  bits : Nat
  seed : BitVec 64

/-- A valid one. -/
structure Cut.Ok (c : Cut) : Prop where
  win1 : 1 ≤ c.win
  win64 : c.win ≤ 64
  mn : c.win ≤ c.mn
  mx : c.mn ≤ c.mx
  most : c.mx ≤ 32768
  bits : c.bits ≤ 20

/-- Is the position behind these bytes marked? -/
def mk (c : Cut) (ps : List Nat) : Bool := decide (c.win ≤ ps.length) && decide (c.bits ≤ tz (Roll.hash c.seed (lastOf ps c.win)))

/-- The last marked position up to k, or -Min. -/
def lastM (c : Cut) (ds : List Nat) : Nat → Int
  | 0 => -(c.mn : Int)
  | k + 1 => if mk c (ds.take (k + 1)) then ((k + 1 : Nat) : Int) else lastM c ds k

/-- Is p a primary cut? -/
def prim (c : Cut) (ds : List Nat) (p : Nat) : Bool := mk c (ds.take p) && decide ((c.mn : Int) ≤ (p : Int) - lastM c ds (p - 1))

theorem lastM_bounds (c : Cut) (ds : List Nat) : ∀ k, -(c.mn : Int) ≤ lastM c ds k ∧ lastM c ds k ≤ k
  | 0 => by unfold lastM; omega
  | k + 1 => by
    have := lastM_bounds c ds k
    unfold lastM
    split <;> omega

theorem lastM_spec (c : Cut) (ds : List Nat) : ∀ k, (lastM c ds k = -(c.mn : Int) ∧ ∀ q, 1 ≤ q → q ≤ k → mk c (ds.take q) = false) ∨
    (∃ q, 1 ≤ q ∧ q ≤ k ∧ lastM c ds k = (q : Int) ∧ mk c (ds.take q) = true ∧ ∀ r, q < r → r ≤ k → mk c (ds.take r) = false)
  | 0 => .inl ⟨rfl, fun q h1 h2 => by omega⟩
  | k + 1 => by
    by_cases h : mk c (ds.take (k + 1)) = true
    · exact .inr ⟨k + 1, by omega, by omega, by unfold lastM; rw [if_pos h], h, fun r h1 h2 => by omega⟩
    · have e : lastM c ds (k + 1) = lastM c ds k := by rw [lastM, if_neg h]
      rw [e]
      have h' : mk c (ds.take (k + 1)) = false := by simpa using h
      rcases lastM_spec c ds k with ⟨h1, h2⟩ | ⟨q, h1, h2, h3, h4, h5⟩
      · refine .inl ⟨h1, fun q hq hk => ?_⟩
        by_cases hqk : q = k + 1
        · rw [hqk]; exact h'
        · exact h2 q hq (by omega)
      · refine .inr ⟨q, h1, by omega, h3, h4, fun r hr hk => ?_⟩
        by_cases hrk : r = k + 1
        · rw [hrk]; exact h'
        · exact h5 r hr (by omega)

theorem prim_iff (c : Cut) (ds : List Nat) (p : Nat) (hp : 1 ≤ p) :
    prim c ds p = true ↔ mk c (ds.take p) = true ∧ ∀ q, 1 ≤ q → q < p → p < q + c.mn → mk c (ds.take q) = false := by
  unfold prim
  rw [Bool.and_eq_true, decide_eq_true_eq]
  refine and_congr_right fun _ => ?_
  rcases lastM_spec c ds (p - 1) with ⟨h1, h2⟩ | ⟨q, h1, h2, h3, h4, h5⟩
  · rw [h1]
    exact ⟨fun _ q hq hqp _ => h2 q hq (by omega), fun _ => by omega⟩
  · rw [h3]
    constructor
    · intro h r hr hrp hm
      exact h5 r (by omega) (by omega)
    · intro h
      by_cases hm : p < q + c.mn
      · rw [h q h1 (by omega) hm] at h4; cases h4
      · omega

theorem lastM_take (c : Cut) (ds : List Nat) (n : Nat) : ∀ k, k ≤ n → lastM c (ds.take n) k = lastM c ds k
  | 0, _ => rfl
  | k + 1, h => by
    unfold lastM
    rw [List.take_take, Nat.min_eq_left h, lastM_take c ds n k (by omega)]
theorem prim_take (c : Cut) (ds : List Nat) (n p : Nat) (h : p ≤ n) : prim c (ds.take n) p = prim c ds p := by
  unfold prim
  rw [List.take_take, Nat.min_eq_left h, lastM_take c ds n _ (by omega)]

/-- The primary cuts up to k. -/
def primTo (c : Cut) (ds : List Nat) : Nat → List Nat
  | 0 => []
  | k + 1 => primTo c ds k ++ if prim c ds (k + 1) then [k + 1] else []
theorem primTo_yes {c : Cut} {ds : List Nat} {k : Nat} (h : prim c ds (k + 1) = true) : primTo c ds (k + 1) = primTo c ds k ++ [k + 1] := by rw [primTo, if_pos h]
theorem primTo_no {c : Cut} {ds : List Nat} {k : Nat} (h : prim c ds (k + 1) = false) : primTo c ds (k + 1) = primTo c ds k := by rw [primTo, if_neg (by simp [h]), List.append_nil]
theorem primTo_take (c : Cut) (ds : List Nat) (n : Nat) : ∀ k, k ≤ n → primTo c (ds.take n) k = primTo c ds k
  | 0, _ => rfl
  | k + 1, h => by rw [primTo, primTo, primTo_take c ds n k (by omega), prim_take c ds n _ h]
theorem mem_primTo (c : Cut) (ds : List Nat) (p : Nat) : ∀ k, p ∈ primTo c ds k ↔ 1 ≤ p ∧ p ≤ k ∧ prim c ds p = true
  | 0 => by simp [primTo]; omega
  | k + 1 => by
    rw [primTo, List.mem_append, mem_primTo c ds p k]
    by_cases h : prim c ds (k + 1) = true
    · rw [if_pos h, List.mem_singleton]
      constructor
      · rintro (⟨a, b, d⟩ | rfl)
        · exact ⟨a, by omega, d⟩
        · exact ⟨by omega, by omega, h⟩
      · rintro ⟨a, b, d⟩
        by_cases e : p = k + 1
        · exact .inr e
        · exact .inl ⟨a, by omega, d⟩
    · rw [if_neg h]
      constructor
      · rintro (⟨a, b, d⟩ | d)
        · exact ⟨a, by omega, d⟩
        · cases d
      · rintro ⟨a, b, d⟩
        by_cases e : p = k + 1
        · subst e; exact absurd d h
        · exact .inl ⟨a, by omega, d⟩

/-- The last primary cut up to k, or 0. -/
def lastP (c : Cut) (ds : List Nat) : Nat → Nat
  | 0 => 0
  | k + 1 => if prim c ds (k + 1) then k + 1 else lastP c ds k
theorem lastP_le (c : Cut) (ds : List Nat) : ∀ k, lastP c ds k ≤ k
  | 0 => Nat.le_refl _
  | k + 1 => by
    have := lastP_le c ds k
    unfold lastP
    split <;> omega
theorem lastP_between (c : Cut) (ds : List Nat) : ∀ k p, lastP c ds k < p → p ≤ k → prim c ds p = false
  | 0, p, h1, h2 => by omega
  | k + 1, p, h1, h2 => by
    unfold lastP at h1
    split at h1
    · omega
    · rename_i h
      by_cases e : p = k + 1
      · subst e; simpa using h
      · exact lastP_between c ds k p h1 (by omega)
/-- Each primary cut has its index, and the one ahead of it is the last one before. -/
theorem primTo_at (c : Cut) (ds : List Nat) : ∀ k i, i < (primTo c ds k).length → ∃ p, (primTo c ds k)[i]? = some p ∧ 1 ≤ p ∧ p ≤ k ∧ prim c ds p = true ∧ (primTo c ds (p - 1)).length = i ∧ lastP c ds (p - 1) = (0 :: primTo c ds k).getD i 0
  | 0, i, h => by simp [primTo] at h
  | k + 1, i, h => by
    have hlast : ∀ k, (0 :: primTo c ds k).getD (primTo c ds k).length 0 = lastP c ds k := by
      intro k
      induction k with
      | zero => rfl
      | succ k ih =>
        by_cases hp : prim c ds (k + 1) = true
        · rw [primTo_yes hp, lastP, if_pos hp]
          simp [List.getD_eq_getElem?_getD]
        · have hp' : prim c ds (k + 1) = false := by simpa using hp
          rw [primTo_no hp', lastP, if_neg hp]
          exact ih
    by_cases hp : prim c ds (k + 1) = true
    · rw [primTo_yes hp] at h ⊢
      rw [List.length_append, List.length_singleton] at h
      by_cases hi : i < (primTo c ds k).length
      · obtain ⟨p, h1, h2, h3, h4, h5, h6⟩ := primTo_at c ds k i hi
        refine ⟨p, by rw [List.getElem?_append_left hi]; exact h1, h2, by omega, h4, h5, ?_⟩
        rw [h6, ← List.cons_append, List.getD_eq_getElem?_getD, List.getD_eq_getElem?_getD, List.getElem?_append_left (by simp; omega)]
      · have e : i = (primTo c ds k).length := by omega
        refine ⟨k + 1, by rw [e, List.getElem?_append_right (Nat.le_refl _)]; simp, by omega, Nat.le_refl _, hp, e.symm, ?_⟩
        rw [← List.cons_append, List.getD_eq_getElem?_getD, List.getElem?_append_left (by simp; omega), ← List.getD_eq_getElem?_getD, e]
        exact (hlast k).symm
    · have hp' : prim c ds (k + 1) = false := by simpa using hp
      rw [primTo_no hp'] at h ⊢
      obtain ⟨p, h1, h2, h3, h4⟩ := primTo_at c ds k i h
      exact ⟨p, h1, h2, by omega, h4⟩
theorem primTo_last (c : Cut) (ds : List Nat) : ∀ k, (0 :: primTo c ds k).getD (primTo c ds k).length 0 = lastP c ds k := by
  intro k
  induction k with
  | zero => rfl
  | succ k ih =>
    by_cases hp : prim c ds (k + 1) = true
    · rw [primTo_yes hp, lastP, if_pos hp]
      simp [List.getD_eq_getElem?_getD]
    · have hp' : prim c ds (k + 1) = false := by simpa using hp
      rw [primTo_no hp', lastP, if_neg hp]
      exact ih

/-! ### Cuts and chunks -/

/-- Where the chunk begins that is open behind k bytes. -/
def startS (c : Cut) (ds : List Nat) : Nat → Nat
  | 0 => 0
  | k + 1 => if prim c ds (k + 1) || decide (startS c ds k + c.mx = k + 1) then k + 1 else startS c ds k
/-- Is a chunk complete with k + 1 bytes? -/
def cutS (c : Cut) (ds : List Nat) (k : Nat) : Bool := prim c ds (k + 1) || decide (startS c ds k + c.mx = k + 1)
/-- The ends of the chunks that are complete with k bytes. -/
def cutsS (c : Cut) (ds : List Nat) : Nat → List Nat
  | 0 => []
  | k + 1 => cutsS c ds k ++ if cutS c ds k then [k + 1] else []
/-- These chunks. -/
def chunksS (c : Cut) (ds : List Nat) : Nat → List (List Nat)
  | 0 => []
  | k + 1 => chunksS c ds k ++ if cutS c ds k then [(ds.take (k + 1)).drop (startS c ds k)] else []
/-- All cuts. -/
def cuts (c : Cut) (ds : List Nat) : List Nat := cutsS c ds ds.length ++ if startS c ds ds.length < ds.length then [ds.length] else []
/-- All chunks. -/
def chunks (c : Cut) (ds : List Nat) : List (List Nat) := chunksS c ds ds.length ++ if startS c ds ds.length < ds.length then [ds.drop (startS c ds ds.length)] else []

theorem startS_yes {c : Cut} {ds : List Nat} {k : Nat} (h : cutS c ds k = true) : startS c ds (k + 1) = k + 1 := by
  unfold cutS at h; rw [startS, if_pos h]
theorem startS_no {c : Cut} {ds : List Nat} {k : Nat} (h : cutS c ds k = false) : startS c ds (k + 1) = startS c ds k := by
  unfold cutS at h; rw [startS, if_neg (by simp [h])]
theorem cutsS_yes {c : Cut} {ds : List Nat} {k : Nat} (h : cutS c ds k = true) : cutsS c ds (k + 1) = cutsS c ds k ++ [k + 1] := by rw [cutsS, if_pos h]
theorem cutsS_no {c : Cut} {ds : List Nat} {k : Nat} (h : cutS c ds k = false) : cutsS c ds (k + 1) = cutsS c ds k := by rw [cutsS, if_neg (by simp [h]), List.append_nil]
theorem chunksS_yes {c : Cut} {ds : List Nat} {k : Nat} (h : cutS c ds k = true) : chunksS c ds (k + 1) = chunksS c ds k ++ [(ds.take (k + 1)).drop (startS c ds k)] := by rw [chunksS, if_pos h]
theorem chunksS_no {c : Cut} {ds : List Nat} {k : Nat} (h : cutS c ds k = false) : chunksS c ds (k + 1) = chunksS c ds k := by rw [chunksS, if_neg (by simp [h]), List.append_nil]

theorem startS_le (c : Cut) (ds : List Nat) : ∀ k, startS c ds k ≤ k
  | 0 => Nat.le_refl _
  | k + 1 => by
    have := startS_le c ds k
    unfold startS
    split <;> omega
theorem startS_mx (c : Cut) (ds : List Nat) (h : 1 ≤ c.mx) : ∀ k, k < startS c ds k + c.mx
  | 0 => by unfold startS; omega
  | k + 1 => by
    have h1 := startS_mx c ds h k
    by_cases hc : cutS c ds k = true
    · rw [startS_yes hc]; omega
    · have hc' : cutS c ds k = false := by simpa using hc
      rw [startS_no hc']
      unfold cutS at hc'
      rw [Bool.or_eq_false_iff, decide_eq_false_iff_not] at hc'
      omega
theorem cutsS_mem (c : Cut) (ds : List Nat) : ∀ k p, p ∈ cutsS c ds k → 1 ≤ p ∧ p ≤ k
  | 0, p, h => by cases h
  | k + 1, p, h => by
    rw [cutsS, List.mem_append] at h
    rcases h with h | h
    · have := cutsS_mem c ds k p h; omega
    · split at h
      · rw [List.mem_singleton] at h; omega
      · cases h
theorem cuts_mem (c : Cut) (ds : List Nat) (p : Nat) (h : p ∈ cuts c ds) : 1 ≤ p ∧ p ≤ ds.length := by
  unfold cuts at h
  rw [List.mem_append] at h
  rcases h with h | h
  · exact cutsS_mem c ds _ p h
  · split at h
    · rw [List.mem_singleton] at h; omega
    · cases h
theorem cutsS_length (c : Cut) (ds : List Nat) : ∀ k, (cutsS c ds k).length ≤ k
  | 0 => Nat.le_refl _
  | k + 1 => by
    have := cutsS_length c ds k
    rw [cutsS, List.length_append]
    split <;> simp <;> omega
theorem chunksS_length (c : Cut) (ds : List Nat) : ∀ k, (chunksS c ds k).length = (cutsS c ds k).length
  | 0 => rfl
  | k + 1 => by
    rw [cutsS, chunksS, List.length_append, List.length_append, chunksS_length c ds k]
    split <;> rfl
theorem chunks_length (c : Cut) (ds : List Nat) : (chunks c ds).length = (cuts c ds).length := by
  unfold chunks cuts
  rw [List.length_append, List.length_append, chunksS_length]
  split <;> rfl
theorem startS_length (c : Cut) (ds : List Nat) : ∀ k, (cutsS c ds k).length ≤ startS c ds k
  | 0 => Nat.le_refl _
  | k + 1 => by
    by_cases hc : cutS c ds k = true
    · rw [startS_yes hc, cutsS_yes hc, List.length_append, List.length_singleton]
      have := cutsS_length c ds k; omega
    · have hc' : cutS c ds k = false := by simpa using hc
      rw [startS_no hc', cutsS_no hc']; exact startS_length c ds k
theorem cuts_length (c : Cut) (ds : List Nat) : (cuts c ds).length ≤ ds.length := by
  unfold cuts
  rw [List.length_append]
  have := startS_length c ds ds.length
  have := startS_le c ds ds.length
  split <;> simp <;> omega

/-- The last byte ends a chunk, whatever it is. -/
theorem cuts_last (c : Cut) (ds : List Nat) (k : Nat) (h : ds.length = k + 1) : cuts c ds = cutsS c ds k ++ [k + 1] ∧ chunks c ds = chunksS c ds k ++ [(ds.take (k + 1)).drop (startS c ds k)] := by
  have hs := startS_le c ds k
  have ht : ds.take (k + 1) = ds := List.take_of_length_le (by omega)
  unfold cuts chunks
  rw [h]
  by_cases hc : cutS c ds k = true
  · rw [cutsS_yes hc, chunksS_yes hc, startS_yes hc, if_neg (by omega), if_neg (by omega)]; simp
  · have hc' : cutS c ds k = false := by simpa using hc
    rw [cutsS_no hc', chunksS_no hc', startS_no hc', if_pos (by omega), if_pos (by omega), ht]
    exact ⟨rfl, rfl⟩
theorem cuts_nil (c : Cut) (ds : List Nat) (h : ds.length = 0) : cuts c ds = [] ∧ chunks c ds = [] := by
  unfold cuts chunks
  rw [h]
  simp [cutsS, chunksS]

/-- The pieces of a content between cuts. -/
def pieces (ds : List Nat) : Nat → List Nat → List (List Nat)
  | _, [] => []
  | a, p :: ps => (ds.take p).drop a :: pieces ds p ps
theorem pieces_snoc (ds : List Nat) (p : Nat) : ∀ (ps : List Nat) (a : Nat), pieces ds a (ps ++ [p]) = pieces ds a ps ++ [(ds.take p).drop ((a :: ps).getLast (by simp))]
  | [], a => rfl
  | q :: ps, a => by
    rw [List.cons_append, pieces, pieces_snoc ds p ps q]
    rfl
theorem cutsS_getLast (c : Cut) (ds : List Nat) : ∀ k, (0 :: cutsS c ds k).getLast (by simp) = startS c ds k
  | 0 => rfl
  | k + 1 => by
    by_cases hc : cutS c ds k = true
    · simp only [startS_yes hc, cutsS_yes hc, ← List.cons_append]
      exact List.getLast_concat
    · have hc' : cutS c ds k = false := by simpa using hc
      simp only [startS_no hc', cutsS_no hc']; exact cutsS_getLast c ds k
theorem chunksS_pieces (c : Cut) (ds : List Nat) : ∀ k, chunksS c ds k = pieces ds 0 (cutsS c ds k)
  | 0 => rfl
  | k + 1 => by
    by_cases hc : cutS c ds k = true
    · rw [chunksS_yes hc, cutsS_yes hc, pieces_snoc, cutsS_getLast, chunksS_pieces c ds k]
    · have hc' : cutS c ds k = false := by simpa using hc
      rw [chunksS_no hc', cutsS_no hc']; exact chunksS_pieces c ds k
theorem chunks_pieces (c : Cut) (ds : List Nat) : chunks c ds = pieces ds 0 (cuts c ds) := by
  unfold chunks cuts
  split
  · rw [pieces_snoc, cutsS_getLast, chunksS_pieces, List.take_length]
  · rw [List.append_nil, List.append_nil, chunksS_pieces]

/-- What is known where the reference has come to position a with the cuts out. -/
def At (c : Cut) (ds : List Nat) (a : Nat) (out : List Nat) : Prop := a ≤ ds.length ∧ startS c ds a = a ∧ out = cutsS c ds a
theorem stay (c : Cut) (ds : List Nat) (a : Nat) (h : startS c ds a = a) : ∀ n, (∀ p, a < p → p ≤ a + n → prim c ds p = false) → n < c.mx → startS c ds (a + n) = a ∧ cutsS c ds (a + n) = cutsS c ds a
  | 0, _, _ => ⟨h, rfl⟩
  | n + 1, hp, hm => by
    obtain ⟨h1, h2⟩ := stay c ds a h n (fun p hp1 hp2 => hp p hp1 (by omega)) (by omega)
    have hc : cutS c ds (a + n) = false := by
      unfold cutS
      rw [Bool.or_eq_false_iff, decide_eq_false_iff_not, h1]
      exact ⟨hp _ (by omega) (by omega), by omega⟩
    rw [← Nat.add_assoc, startS_no hc, cutsS_no hc]
    exact ⟨h1, h2⟩
/-- One more cut of the reference: e is the next primary cut, or the end. -/
theorem At.next {c : Cut} {ds : List Nat} {a e : Nat} {out : List Nat} (h : At c ds a out) (hm : 1 ≤ c.mx) (ha : a < e) (he : e ≤ ds.length) (hp : ∀ p, a < p → p < e → prim c ds p = false) (hl : prim c ds e = true ∨ e = ds.length) :
    At c ds (min (a + c.mx) e) (out ++ [min (a + c.mx) e]) ∨ (min (a + c.mx) e = ds.length ∧ e = ds.length ∧ out ++ [min (a + c.mx) e] = cuts c ds) := by
  obtain ⟨h1, h2, rfl⟩ := h
  obtain ⟨t, ht⟩ : ∃ t, min (a + c.mx) e = a + t + 1 := ⟨min (a + c.mx) e - a - 1, by omega⟩
  obtain ⟨k1, k2⟩ := stay c ds a h2 t (fun p hp1 hp2 => hp p hp1 (by omega)) (by omega)
  rw [ht]
  by_cases hc : cutS c ds (a + t) = true
  · refine .inl ⟨by omega, startS_yes hc, ?_⟩
    rw [cutsS_yes hc, k2]
  · have hc' : cutS c ds (a + t) = false := by simpa using hc
    have hc2 := hc'
    unfold cutS at hc2
    rw [Bool.or_eq_false_iff, decide_eq_false_iff_not, k1] at hc2
    have e1 : a + t + 1 = e := by omega
    have e2 : e = ds.length := by
      rcases hl with hl | hl
      · rw [e1, hl] at hc2; cases hc2.1
      · exact hl
    exact .inr ⟨by omega, e2, by rw [(cuts_last c ds (a + t) (by omega)).1, k2]⟩
theorem At.done {c : Cut} {ds : List Nat} {out : List Nat} (h : At c ds ds.length out) : out = cuts c ds := by
  obtain ⟨_, h2, rfl⟩ := h
  unfold cuts
  rw [h2, if_neg (Nat.lt_irrefl _), List.append_nil]
theorem At.start (c : Cut) (ds : List Nat) : At c ds 0 [] := ⟨Nat.zero_le _, rfl, rfl⟩
/-- A primary cut is a cut. -/
theorem startS_prim {c : Cut} {ds : List Nat} {p : Nat} (h1 : 1 ≤ p) (h : prim c ds p = true) : startS c ds p = p := by
  obtain ⟨k, rfl⟩ : ∃ k, p = k + 1 := ⟨p - 1, by omega⟩
  exact startS_yes (by unfold cutS; rw [h]; rfl)

/-! ### How far a byte reaches -/

theorem lastOf_sub (xs : List Nat) (p n d w : Nat) (hp : p ≤ xs.length) (hn : n ≤ p) (hd : d + w ≤ n) : lastOf (xs.take (p - d)) w = ((lastOf (xs.take p) n).take (n - d)).drop (n - d - w) := by
  unfold lastOf
  rw [List.length_take, List.length_take, Nat.min_eq_left (by omega), Nat.min_eq_left hp]
  apply List.ext_getElem?
  intro i
  simp only [List.getElem?_drop, List.getElem?_take]
  by_cases h : p - d - w + i < p - d
  · rw [if_pos h, if_pos (by omega), if_pos (by omega)]
    congr 1; omega
  · rw [if_neg h, if_neg (by omega)]
theorem mk_of_last (c : Cut) (xs ys : List Nat) (p q n d : Nat) (hp : p ≤ xs.length) (hq : q ≤ ys.length) (hnp : n ≤ p) (hnq : n ≤ q) (hd : d + c.win ≤ n) (h : lastOf (xs.take p) n = lastOf (ys.take q) n) :
    mk c (xs.take (p - d)) = mk c (ys.take (q - d)) := by
  unfold mk
  rw [lastOf_sub xs p n d c.win hp hnp hd, lastOf_sub ys q n d c.win hq hnq hd, h, List.length_take, List.length_take, Nat.min_eq_left (by omega), Nat.min_eq_left (by omega), decide_eq_true (show c.win ≤ p - d by omega), decide_eq_true (show c.win ≤ q - d by omega)]
/-- Whether a position is a primary cut depends on the Window + Min - 1 bytes before it, where there are so many. -/
theorem prim_congr {c : Cut} (hc : c.Ok) (xs ys : List Nat) (p q : Nat) (hp : p ≤ xs.length) (hq : q ≤ ys.length) (hnp : c.win + c.mn - 1 ≤ p) (hnq : c.win + c.mn - 1 ≤ q)
    (h : lastOf (xs.take p) (c.win + c.mn - 1) = lastOf (ys.take q) (c.win + c.mn - 1)) : prim c xs p = prim c ys q := by
  have h1 := hc.win1
  have h2 := hc.mn
  have key : ∀ d, d < c.mn → mk c (xs.take (p - d)) = mk c (ys.take (q - d)) := fun d hd => mk_of_last c xs ys p q _ d hp hq hnp hnq (by omega) h
  rw [Bool.eq_iff_iff, prim_iff c xs p (by omega), prim_iff c ys q (by omega), show mk c (ys.take q) = mk c (xs.take p) from (key 0 (by omega)).symm]
  refine and_congr_right fun _ => ⟨fun hh r hr1 hr2 hr3 => ?_, fun hh r hr1 hr2 hr3 => ?_⟩
  · have := key (q - r) (by omega)
    rw [show q - (q - r) = r by omega] at this
    rw [← this]; exact hh _ (by omega) (by omega) (by omega)
  · have := key (p - r) (by omega)
    rw [show p - (p - r) = r by omega] at this
    rw [this]; exact hh _ (by omega) (by omega) (by omega)
end Chk
end Go.Proofs.YtfnhcjcahcacnaaDoor
