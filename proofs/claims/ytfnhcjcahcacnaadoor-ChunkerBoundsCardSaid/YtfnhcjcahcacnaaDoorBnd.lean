/- Plain laws of the bounds of chunks: between two cuts in a row lie 1 to Max bytes and no primary cut. -/
import Derived.Test.YtfnhcjcahcacnaaDoorFil
namespace Go.Proofs.YtfnhcjcahcacnaaDoor
set_option linter.unusedVariables false
set_option linter.unusedSimpArgs false
open Chk

theorem startS_between (c : Cut) (ds : List Nat) : ∀ k p, startS c ds k < p → p ≤ k → prim c ds p = false
  | 0, p, h1, h2 => by unfold startS at h1; omega
  | k + 1, p, h1, h2 => by
    cases hc : cutS c ds k with
    | true => rw [startS_yes hc] at h1; omega
    | false =>
      rw [startS_no hc] at h1
      by_cases e : p = k + 1
      · rw [e]
        unfold cutS at hc
        rw [Bool.or_eq_false_iff] at hc
        exact hc.1
      · exact startS_between c ds k p h1 (by omega)
/-- Two cuts in a row, a and b. -/
structure Step (c : Cut) (ds : List Nat) (a b : Nat) : Prop where
  lt : a < b
  mx : b ≤ a + c.mx
  no : ∀ p, a < p → p < b → prim c ds p = false
def Steps (c : Cut) (ds : List Nat) (zs : List Nat) : Prop := ∀ i, i < zs.length → Step c ds ((0 :: zs).getD i 0) (zs.getD i 0)
theorem Steps.snoc {c : Cut} {ds zs : List Nat} {x : Nat} (h : Steps c ds zs) (hx : Step c ds ((0 :: zs).getLast (by simp)) x) : Steps c ds (zs ++ [x]) := by
  intro i hi
  rw [List.length_append, List.length_singleton] at hi
  rw [← List.cons_append, List.getD_eq_getElem?_getD, List.getElem?_append_left (by simp; omega), ← List.getD_eq_getElem?_getD]
  by_cases hlt : i < zs.length
  · rw [List.getD_eq_getElem?_getD (l := zs ++ [x]), List.getElem?_append_left hlt, ← List.getD_eq_getElem?_getD]
    exact h i hlt
  · have e : i = zs.length := by omega
    subst e
    rw [getD_last0, List.getD_eq_getElem?_getD (l := zs ++ [x]), List.getElem?_append_right (Nat.le_refl _)]
    simpa using hx
theorem cutsS_steps (c : Cut) (ds : List Nat) (hm : 1 ≤ c.mx) : ∀ k, Steps c ds (cutsS c ds k)
  | 0 => fun i hi => by simp [cutsS] at hi
  | k + 1 => by
    have ih := cutsS_steps c ds hm k
    cases hc : cutS c ds k with
    | true =>
      rw [cutsS_yes hc]
      refine ih.snoc ?_
      rw [cutsS_getLast]
      have := startS_le c ds k
      have := startS_mx c ds hm k
      exact ⟨by omega, by omega, fun p h1 h2 => startS_between c ds k p h1 (by omega)⟩
    | false => rw [cutsS_no hc]; exact ih
theorem cuts_steps (c : Cut) (ds : List Nat) (hm : 1 ≤ c.mx) : Steps c ds (cuts c ds) := by
  unfold cuts
  split
  · rename_i h
    refine (cutsS_steps c ds hm _).snoc ?_
    rw [cutsS_getLast]
    have := startS_mx c ds hm ds.length
    exact ⟨h, by omega, fun p h1 h2 => startS_between c ds ds.length p h1 (by omega)⟩
  · rw [List.append_nil]; exact cutsS_steps c ds hm _
theorem cuts_end (c : Cut) (ds : List Nat) : (0 :: cuts c ds).getD (cuts c ds).length 0 = ds.length := by
  rw [getD_last0]
  unfold cuts
  split
  · simp only [← List.cons_append]
    exact List.getLast_concat
  · rename_i h
    simp only [List.append_nil]
    rw [cutsS_getLast]
    have := startS_le c ds ds.length
    omega
theorem primTo_skip (c : Cut) (ds : List Nat) (a : Nat) : ∀ n, (∀ p, a < p → p ≤ a + n → prim c ds p = false) → primTo c ds (a + n) = primTo c ds a
  | 0, _ => rfl
  | n + 1, h => by rw [← Nat.add_assoc, primTo_no (h _ (by omega) (by omega)), primTo_skip c ds a n (fun p h1 h2 => h p h1 (by omega))]
theorem primTo_step {c : Cut} {ds : List Nat} {a b : Nat} (h : Step c ds a b) : primTo c ds b = primTo c ds a ++ if prim c ds b then [b] else [] := by
  obtain ⟨n, rfl⟩ : ∃ n, b = a + n + 1 := ⟨b - a - 1, by have := h.lt; omega⟩
  rw [primTo, primTo_skip c ds a n (fun p h1 h2 => h.no p h1 (by omega))]
theorem split_from (c : Cut) (ds : List Nat) (b : Nat) (hb : b ≤ ds.length) : ∃ r, primTo c ds ds.length = primTo c ds b ++ r ∧ ∀ x ∈ r, b < x := by
  have := primTo_split c ds b (ds.length - b)
  rwa [show b + (ds.length - b) = ds.length by omega] at this
/-- Where the step ends at a primary cut. -/
theorem step_yes {c : Cut} {ds : List Nat} {a b at' : Nat} (h : Step c ds a b) (hb : b ≤ ds.length) (hp : prim c ds b = true) (he : (primTo c ds a).length = at') :
    at' < (primTo c ds ds.length).length ∧ (primTo c ds ds.length).getD at' 0 = b ∧ (primTo c ds b).length = at' + 1 ∧ (0 < at' → (primTo c ds ds.length).getD (at' - 1) 0 + c.mn ≤ b) := by
  obtain ⟨r, h1, h2⟩ := split_from c ds b hb
  have h3 := primTo_step h
  rw [if_pos hp] at h3
  have h4 : (primTo c ds b).length = at' + 1 := by rw [h3, List.length_append, he, List.length_singleton]
  refine ⟨by rw [h1, List.length_append]; omega, ?_, h4, fun h0 => ?_⟩
  · rw [h1, h3, ← he, List.append_assoc, List.getD_eq_getElem?_getD, List.getElem?_append_right (Nat.le_refl _)]; simp
  · have hlt : at' - 1 < (primTo c ds a).length := by omega
    have e : (primTo c ds ds.length).getD (at' - 1) 0 = (primTo c ds a)[at' - 1] := by
      rw [h1, h3, List.append_assoc, List.getD_eq_getElem?_getD, List.getElem?_append_left hlt, List.getElem?_eq_getElem hlt]; rfl
    rw [e]
    have hm := (mem_primTo c ds _ a).1 (List.getElem_mem hlt)
    have hq := h.lt
    have hpr := (prim_iff c ds b (by omega)).1 hp
    have hmk : mk c (ds.take (primTo c ds a)[at' - 1]) = true := ((prim_iff c ds _ hm.1).1 hm.2.2).1
    by_cases hh : b < (primTo c ds a)[at' - 1] + c.mn
    · rw [hpr.2 _ hm.1 (by omega) hh] at hmk; cases hmk
    · omega
theorem step_no {c : Cut} {ds : List Nat} {a b at' : Nat} (h : Step c ds a b) (hb : b ≤ ds.length) (hp : prim c ds b = false) (he : (primTo c ds a).length = at') :
    (primTo c ds b).length = at' ∧ (at' < (primTo c ds ds.length).length → b < (primTo c ds ds.length).getD at' 0) := by
  obtain ⟨r, h1, h2⟩ := split_from c ds b hb
  have h3 := primTo_step h
  rw [if_neg (by simp [hp]), List.append_nil] at h3
  refine ⟨by rw [h3]; exact he, fun hlt => ?_⟩
  rw [h1, List.length_append, h3] at hlt
  rw [h1, h3, List.getD_eq_getElem?_getD, List.getElem?_append_right (by omega), List.getElem?_eq_getElem (by omega)]
  exact h2 _ (List.getElem_mem _)
/-- The piece that a step adds. -/
theorem pieces_getD (ds : List Nat) : ∀ (zs : List Nat) (a i : Nat), i < zs.length → (pieces ds a zs).getD i [] = (ds.take (zs.getD i 0)).drop ((a :: zs).getD i 0)
  | [], a, i, h => by simp at h
  | p :: ps, a, 0, h => rfl
  | p :: ps, a, i + 1, h => by
    rw [pieces, List.getD_cons_succ, List.getD_cons_succ, List.getD_cons_succ]
    exact pieces_getD ds ps p i (by simpa using h)
theorem take_step (ds : List Nat) (a b : Nat) (h : a ≤ b) : ds.take a ++ (ds.take b).drop a = ds.take b := by
  have e : ds.take a = (ds.take b).take a := by rw [List.take_take, Nat.min_eq_left h]
  rw [e, List.take_append_drop]
end Go.Proofs.YtfnhcjcahcacnaaDoor
