/- Filtered lists of primary cuts: the plain laws of Local and Suffix, and what a loop that filters keeps. -/
import Derived.Test.YtfnhcjcahcacnaaDoorLawsJ
namespace Go.Proofs.YtfnhcjcahcacnaaDoor
set_option linter.unusedVariables false
set_option linter.unusedSimpArgs false
open Go.RowKit
open Roll (u)
open Kit (Chg)
open Chk

def fl (P : Nat → Bool) (g : Nat → Nat) (zs : List Nat) : List Nat := (zs.filter P).map g
theorem fl_append (P : Nat → Bool) (g : Nat → Nat) (zs ys : List Nat) : fl P g (zs ++ ys) = fl P g zs ++ fl P g ys := by simp [fl]
theorem fl_yes {P : Nat → Bool} {g : Nat → Nat} {zs : List Nat} {k : Nat} (h : k < zs.length) (hp : P (zs.getD k 0) = true) : fl P g (zs.take (k + 1)) = fl P g (zs.take k) ++ [g (zs.getD k 0)] := by
  rw [List.take_succ_eq_append_getElem h, fl_append]
  rw [show zs.getD k 0 = zs[k] by simp [List.getD, h]] at hp ⊢
  simp [fl, hp]
theorem fl_no {P : Nat → Bool} {g : Nat → Nat} {zs : List Nat} {k : Nat} (h : k < zs.length) (hp : P (zs.getD k 0) = false) : fl P g (zs.take (k + 1)) = fl P g (zs.take k) := by
  rw [List.take_succ_eq_append_getElem h, fl_append]
  rw [show zs.getD k 0 = zs[k] by simp [List.getD, h]] at hp
  simp [fl, hp]
theorem fl_length (P : Nat → Bool) (g : Nat → Nat) (zs : List Nat) : (fl P g zs).length ≤ zs.length := by unfold fl; rw [List.length_map]; exact List.length_filter_le _ _
theorem fl_nil (P : Nat → Bool) (g : Nat → Nat) : fl P g [] = [] := rfl

theorem getElem?_splice (ds ch : List Nat) (f i : Nat) (hf : f + ch.length ≤ ds.length) : (ds.take f ++ ch ++ ds.drop (f + ch.length))[i]? = if i < f ∨ f + ch.length ≤ i then ds[i]? else ch[i - f]? := by
  have e1 : (ds.take f).length = f := by rw [List.length_take]; omega
  by_cases h1 : i < f
  · rw [if_pos (.inl h1), List.append_assoc, List.getElem?_append_left (by omega), List.getElem?_take_of_lt h1]
  · by_cases h2 : f + ch.length ≤ i
    · rw [if_pos (.inr h2), List.getElem?_append_right (by rw [List.length_append]; omega), List.length_append, e1, List.getElem?_drop]
      congr 1; omega
    · rw [if_neg (by omega), List.getElem?_append_left (by rw [List.length_append]; omega), List.getElem?_append_right (by omega), e1]
theorem splice_length (ds ch : List Nat) (f : Nat) (hf : f + ch.length ≤ ds.length) : (ds.take f ++ ch ++ ds.drop (f + ch.length)).length = ds.length := by
  simp only [List.length_append, List.length_take, List.length_drop]; omega

/-- Beyond the reach of a change the primary cuts are the same. -/
theorem local_law {c : Cut} (hc : c.Ok) (ds ch : List Nat) (f : Nat) (hf : f + ch.length ≤ ds.length) (P : Nat → Bool) (hP : ∀ p, P p = true → p ≤ f ∨ f + ch.length + c.win + c.mn - 2 < p) :
    ∀ k, k ≤ ds.length → fl P id (primTo c ds k) = fl P id (primTo c (ds.take f ++ ch ++ ds.drop (f + ch.length)) k)
  | 0, _ => rfl
  | k + 1, hk => by
    have ih := local_law hc ds ch f hf P hP k (by omega)
    have hlen := splice_length ds ch f hf
    have hget := getElem?_splice ds ch f
    have hw := hc.win1
    have hm := hc.mn
    generalize ds.take f ++ ch ++ ds.drop (f + ch.length) = os at ih hlen hget
    rw [primTo, primTo, fl_append, fl_append, ih]
    by_cases hp : P (k + 1) = true
    · have e : prim c ds (k + 1) = prim c os (k + 1) := by
        rcases hP _ hp with h | h
        · rw [← prim_take c ds (k + 1) (k + 1) (Nat.le_refl _), ← prim_take c os (k + 1) (k + 1) (Nat.le_refl _)]
          congr 1
          apply List.ext_getElem?
          intro i
          by_cases hi : i < k + 1
          · rw [List.getElem?_take_of_lt hi, List.getElem?_take_of_lt hi, hget i hf, if_pos (.inl (by omega))]
          · rw [List.getElem?_eq_none (by rw [List.length_take]; omega), List.getElem?_eq_none (by rw [List.length_take]; omega)]
        · refine prim_congr hc ds os (k + 1) (k + 1) hk (by omega) (by omega) (by omega) ?_
          unfold lastOf
          rw [List.length_take, List.length_take, Nat.min_eq_left hk, Nat.min_eq_left (by omega)]
          apply List.ext_getElem?
          intro i
          rw [List.getElem?_drop, List.getElem?_drop]
          by_cases hi : k + 1 - (c.win + c.mn - 1) + i < k + 1
          · rw [List.getElem?_take_of_lt hi, List.getElem?_take_of_lt hi, hget _ hf, if_pos (.inr (by omega))]
          · rw [List.getElem?_eq_none (by rw [List.length_take]; omega), List.getElem?_eq_none (by rw [List.length_take]; omega)]
      rw [e]
    · have hp' : P (k + 1) = false := by simpa using hp
      have e : ∀ b : Bool, fl P id (if b = true then [k + 1] else []) = [] := fun b => by cases b <;> simp [fl, hp']
      rw [e, e]

/-- Near a common end the primary cuts are the same, counted from the end. -/
theorem suffix_law {c : Cut} (hc : c.Ok) (a b e : List Nat) (PX PY : Nat → Bool) (hX : ∀ p, PX p = decide (a.length + c.win + c.mn < p + 2)) (hY : ∀ p, PY p = decide (b.length + c.win + c.mn < p + 2)) :
    ∀ j, j ≤ e.length → fl PX (fun p => a.length + e.length - p) (primTo c (a ++ e) (a.length + j)) = fl PY (fun p => b.length + e.length - p) (primTo c (b ++ e) (b.length + j))
  | 0, _ => by
    have hw := hc.win1
    have hm := hc.mn
    have key : ∀ (P : Nat → Bool) (n : Nat) (g : Nat → Nat) (zs : List Nat), (∀ p ∈ zs, P p = false) → fl P g zs = [] := fun P n g zs h => by
      unfold fl
      rw [List.map_eq_nil_iff, List.filter_eq_nil_iff]
      intro p hp; rw [h p hp]; simp
    have k1 := key PX a.length (fun p => a.length + e.length - p) (primTo c (a ++ e) (a.length + 0)) (fun p hp => by
      have := (mem_primTo c _ p _).1 hp
      rw [hX, decide_eq_false_iff_not]; omega)
    have k2 := key PY b.length (fun p => b.length + e.length - p) (primTo c (b ++ e) (b.length + 0)) (fun p hp => by
      have := (mem_primTo c _ p _).1 hp
      rw [hY, decide_eq_false_iff_not]; omega)
    rw [k1, k2]
  | j + 1, hj => by
    have ih := suffix_law hc a b e PX PY hX hY j (by omega)
    have hw := hc.win1
    have hm := hc.mn
    rw [← Nat.add_assoc, ← Nat.add_assoc, primTo, primTo, fl_append, fl_append, ih]
    by_cases hp : c.win + c.mn < j + 1 + 2
    · have hpx : PX (a.length + j + 1) = true := by rw [hX, decide_eq_true_eq]; omega
      have hpy : PY (b.length + j + 1) = true := by rw [hY, decide_eq_true_eq]; omega
      have e1 : prim c (a ++ e) (a.length + j + 1) = prim c (b ++ e) (b.length + j + 1) := by
        refine prim_congr hc (a ++ e) (b ++ e) _ _ (by rw [List.length_append]; omega) (by rw [List.length_append]; omega) (by omega) (by omega) ?_
        unfold lastOf
        rw [List.length_take, List.length_take, List.length_append, List.length_append, Nat.min_eq_left (by omega), Nat.min_eq_left (by omega)]
        apply List.ext_getElem?
        intro i
        rw [List.getElem?_drop, List.getElem?_drop]
        by_cases hi : i < c.win + c.mn - 1
        · rw [List.getElem?_take_of_lt (by omega), List.getElem?_take_of_lt (by omega), List.getElem?_append_right (by omega), List.getElem?_append_right (by omega)]
          congr 1; omega
        · rw [List.getElem?_eq_none (by rw [List.length_take]; omega), List.getElem?_eq_none (by rw [List.length_take]; omega)]
      rw [e1]
      cases prim c (b ++ e) (b.length + j + 1) with
      | false => rfl
      | true =>
        have e2 : a.length + e.length - (a.length + j + 1) = b.length + e.length - (b.length + j + 1) := by omega
        simp [fl, hpx, hpy, e2]
    · have hpx : PX (a.length + j + 1) = false := by rw [hX, decide_eq_false_iff_not]; omega
      have hpy : PY (b.length + j + 1) = false := by rw [hY, decide_eq_false_iff_not]; omega
      have e1 : ∀ b' : Bool, fl PX (fun p => a.length + e.length - p) (if b' = true then [a.length + j + 1] else []) = [] := fun b' => by cases b' <;> simp [fl, hpx]
      have e2 : ∀ b' : Bool, fl PY (fun p => b.length + e.length - p) (if b' = true then [b.length + j + 1] else []) = [] := fun b' => by cases b' <;> simp [fl, hpy]
      rw [e1, e2]

/-! ### What a loop that makes a list of numbers keeps -/

/-- It changes its own row: block N, or a new one. -/
def rowM (N S : Nat) : Nat → Nat → Prop := fun g _ => g = N ∨ S ≤ g
structure FilRel (w0 : World) (N : Nat) (out : List Nat) (v : Value) (wr : World) : Prop where
  own : wr.ownsRow N 3 1 v out.length (natV out)
  chg : Chg (rowM N w0.heap.size) w0 wr
  blk : ∀ g, v.ownBlock = some g → rowM N w0.heap.size g 0
theorem natV_app (zs : List Nat) (x : Nat) : natV (zs ++ [x]) = natV zs ++ [.int .i64 (x : Int)] := by simp [natV]
theorem FilRel.push {w0 wr w4 : World} {N : Nat} {out : List Nat} {v v' : Value} {x : Nat} {o : Obj} (h : FilRel w0 N out v wr) (hown : w4.ownsRow N 3 1 v' (out.length + 1) (natV out ++ [.int .i64 (x : Int)])) (hgr : (wr.alloc o).grownBy w4 v.ownBlock)
    (hat : v'.ownBlock = v.ownBlock ∨ v'.ownBlock = some (wr.alloc o).heap.size) : FilRel w0 N (out ++ [x]) v' w4 := by
  refine ⟨by rw [natV_app, List.length_append]; exact hown, h.chg.trans ((Chg.alloc1 wr _).trans (Chg.of_grown hgr (fun g _ e => h.blk g e))), fun g hg => ?_⟩
  rcases hat with e | e
  · exact h.blk g (e.symm.trans hg)
  · rw [e] at hg
    have e2 : (wr.alloc o).heap.size = g := by simpa using hg
    rw [World.size_alloc] at e2
    have := h.chg.size
    exact .inr (by omega)
theorem FilRel.start {w : World} {N : Nat} (h : w.ownsRow N 3 1 (.slice (some ⟨N, 0, none⟩) 0 0) 0 []) : FilRel w N [] (.slice (some ⟨N, 0, none⟩) 0 0) w :=
  ⟨h, Chg.refl _ _, fun g hg => by simp [Value.ownBlock] at hg; exact .inl hg.symm⟩
/-- A row that lies elsewhere stays. -/
theorem FilRel.keep {w0 wr : World} {N : Nat} {out : List Nat} {v : Value} (h : FilRel w0 N out v wr) {N' : Nat} {v' : Value} {n' : Nat} {ys : List Value} (h' : w0.ownsRow N' 3 1 v' n' ys) (hne : ∀ g, v'.ownBlock = some g → g ≠ N) : wr.ownsRow N' 3 1 v' n' ys :=
  ownsRow_keepM h' h.chg (fun g hg i hm => by
    rcases hm with e | e
    · exact hne g hg e
    · have := (h'.lt g hg).2; omega)
theorem two_rows (w : World) : ((w.alloc (.cells #[] 3)).alloc (.cells #[] 3)).ownsRow w.heap.size 3 1 (.slice (some ⟨w.heap.size, 0, none⟩) 0 0) 0 [] ∧ ((w.alloc (.cells #[] 3)).alloc (.cells #[] 3)).ownsRow (w.heap.size + 1) 3 1 (.slice (some ⟨w.heap.size + 1, 0, none⟩) 0 0) 0 [] := by
  have h1 := World.ownsRow_made (base := w.heap.size) (e := 3) (size := 1) w #[] 0 (Nat.le_refl _) (Nat.zero_le _) rfl
  have h2 := World.ownsRow_made (base := w.heap.size + 1) (e := 3) (size := 1) (w.alloc (.cells #[] 3)) #[] 0 (by simp) (Nat.zero_le _) rfl
  rw [World.size_alloc] at h2
  exact ⟨h1.alloc _, h2⟩
end Go.Proofs.YtfnhcjcahcacnaaDoor
