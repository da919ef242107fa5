/- Texts Grv, Gsr, Gfi, Gsm, Vcv, Vcw, Qct, Qrw, Trw, Tfe of the proof, each as a section; no premises beyond those that each theorem states. -/
import Derived.Shelf.SlSortCmp.InsertionK
import Derived.Shelf.SlicesE.Reverse
import Derived.Shelf.SlicesE.Clone
import Derived.Maps.OwnSet
import Derived.Great.BuildSlice
import Derived.ArgAppend
import Derived.Laws.MakeOwn
import Derived.Test.YtmcbnhkcjhlbaaaGreatDoorP05
import Derived.Test.YtmcbnhkcjhlbaaaGreatDoorP12
set_option linter.unusedVariables false
set_option linter.unusedSimpArgs false
section
namespace Go.Proofs.YtmcbnhkcjhlbaaaGreatDoor
open Go.RowKit
open Kit (Chg)
open Go.Proofs.YtmcbnhkcjhlbaaaGreatDoor.One
theorem putRow_block {w : World} {bl : Nat} {F cur : Array Value} {T : TypeId} {fr : Nat × Nat} (h : w.heap[bl]? = some (.cells cur T fr)) : (Sort.putRow id w bl 0 F).heap[bl]? = some (.cells (Sort.putCells id 0 F cur) T fr) := by
  unfold Sort.putRow Sort.mapBlock
  rw [Array.getElem?_modify, if_pos rfl]
  rw [h]
  rfl
theorem putRow_chg (w : World) (bl : Nat) (F : Array Value) : Chg (fun q _ => q = bl) w (Sort.putRow id w bl 0 F) := by
  refine ⟨rfl, rfl, rfl, by rw [Sort.size_putRow]; exact Nat.le_refl _, fun k hk hn => ?_, fun k hn c e f hc => ?_⟩
  · have hne : ¬ bl = k := fun e => hn 0 e.symm
    simp [Sort.putRow, Sort.mapBlock, Array.getElem?_modify, hne]
  · obtain ⟨i, hi⟩ := hn
    have hne : ¬ bl = k := fun e => hi e.symm
    exact ⟨c, by simp [Sort.putRow, Sort.mapBlock, Array.getElem?_modify, hne, hc], rfl, fun _ _ => rfl⟩
theorem own_putRow {w : World} {base size n cap bl : Nat} {T : TypeId} {xs : List Value} (h : w.ownsRow base T size (.slice (some ⟨bl, 0, none⟩) n cap) n xs) (F : Array Value) (hF : F.size = n * size) : (Sort.putRow id w bl 0 F).ownsRow base T size (.slice (some ⟨bl, 0, none⟩) n cap) n F.toList := by
  refine ⟨by rw [Array.length_toList]; exact hF, ?_⟩
  rcases h.2 with ⟨e, _⟩ | ⟨g, cap', cur, e, h1, h2, h3, h4, h5, h6⟩
  · cases e
  · injection e with e1 e2 e3
    injection e1 with e1
    injection e1 with e1
    subst e1
    subst e3
    refine .inr ⟨bl, cap, Sort.putCells id 0 F cur, rfl, h1, putRow_block h2, h3, h4, by unfold Sort.putCells; rw [Array.size_mapIdx]; exact h5, ?_⟩
    have hle : n * size ≤ cur.size := by rw [h5]; exact Nat.mul_le_mul_right _ h3
    refine List.ext_getElem (by rw [List.length_take, Array.length_toList, Array.length_toList]; unfold Sort.putCells; rw [Array.size_mapIdx]; omega) fun i hi1 hi2 => ?_
    rw [Array.length_toList] at hi2
    rw [List.getElem_take, Array.getElem_toList, Array.getElem_toList]
    unfold Sort.putCells
    rw [Array.getElem_mapIdx, if_pos ⟨Nat.zero_le _, by omega⟩, Nat.sub_zero]
    exact getElem!_pos F i hi2
end Go.Proofs.YtmcbnhkcjhlbaaaGreatDoor
end
section
namespace Go.Proofs.YtmcbnhkcjhlbaaaGreatDoor
open Go.RowKit
open Kit (Chg)
open Go.Proofs.YtmcbnhkcjhlbaaaGreatDoor.One

def cmpI (x y : Int) : Int := if x < y then -1 else if y < x then 1 else 0
theorem isNaN_any (x : Int) (w : World) : Calls Tryz.prog 142 #[.int .i64 x] w fun e w' => e = .returned (.bool false) ∧ w = w' := by
  go_enter Tryz.func142, Tryz.ntmps142
  go_wp2
  go_ret
  first | exact ⟨rfl, rfl⟩ | simp
theorem compare_any (x y : Int) (w : World) : Calls Tryz.prog 96 #[.int .i64 x, .int .i64 y] w fun e w' => e = .returned (.int .i64 (cmpI x y)) ∧ w = w' := by
  by_cases h1 : x < y
  · rw [show cmpI x y = -1 by unfold cmpI; rw [if_pos h1]]
    go_enter Tryz.func96, Tryz.ntmps96
    go_wp2_with (first
      | (go_at_call 142
         (with_reducible refine (isNaN_any _ _).mono ?_)
         rintro e w2 ⟨rfl, rfl⟩))
    go_ret
    first | exact ⟨rfl, rfl⟩ | simp
  · by_cases h2 : y < x
    · rw [show cmpI x y = 1 by unfold cmpI; rw [if_neg h1, if_pos h2]]
      go_enter Tryz.func96, Tryz.ntmps96
      go_wp2_with (first
        | (go_at_call 142
           (with_reducible refine (isNaN_any _ _).mono ?_)
           rintro e w2 ⟨rfl, rfl⟩))
      go_ret
      first | exact ⟨rfl, rfl⟩ | simp
    · rw [show cmpI x y = 0 by unfold cmpI; rw [if_neg h1, if_neg h2]]
      go_enter Tryz.func96, Tryz.ntmps96
      go_wp2_with (first
        | (go_at_call 142
           (with_reducible refine (isNaN_any _ _).mono ?_)
           rintro e w2 ⟨rfl, rfl⟩))
      go_ret
      first | exact ⟨rfl, rfl⟩ | simp
end Go.Proofs.YtmcbnhkcjhlbaaaGreatDoor
end
section
namespace Go.Proofs.YtmcbnhkcjhlbaaaGreatDoor
open Go.RowKit
open Kit (Chg)
open Sha (v)
open Go.Proofs.YtmcbnhkcjhlbaaaGreatDoor.One
theorem below_drewN {w : World} {n : Nat} : Below w.heap.size w (w.drewN n) := ⟨rfl, rfl, rfl, Nat.le_refl _, fun _ _ => rfl⟩
end Go.Proofs.YtmcbnhkcjhlbaaaGreatDoor
end
section
namespace Go.Proofs.YtmcbnhkcjhlbaaaGreatDoor
open Go.RowKit
open Kit (Chg)
open Sha (v)
open Go.Proofs.YtmcbnhkcjhlbaaaGreatDoor.One

def sameE (a b : Ent) : Bool := decide (a.dev = b.dev ∧ a.seq = b.seq ∧ a.kind = b.kind ∧ a.day = b.day ∧ a.body = b.body ∧ a.prev = b.prev)
theorem sameE_iff (a b : Ent) : sameE a b = true ↔ a = b := by
  unfold sameE
  rw [decide_eq_true_eq]
  constructor
  · rintro ⟨h1, h2, h3, h4, h5, h6⟩
    exact Ent.ext' h1 h2 h3 h4 h5 h6
  · rintro rfl
    exact ⟨rfl, rfl, rfl, rfl, rfl, rfl⟩
end Go.Proofs.YtmcbnhkcjhlbaaaGreatDoor
end
section
namespace Go.Proofs.YtmcbnhkcjhlbaaaGreatDoor
open Go.RowKit
open Kit (Chg)
open Sha (v)
open Go.Proofs.YtmcbnhkcjhlbaaaGreatDoor.One
theorem bytesEqual_any (a1 a2 : Option Addr) (n1 c1 n2 c2 : Nat) (b1 b2 : List Nat) (hn1 : b1.length = n1) (hn2 : b2.length = n2) (w : World) (hB1 : BytesAt w a1 b1) (hB2 : BytesAt w a2 b2) :
    Calls Tryz.prog 86 #[.slice a1 n1 c1, .slice a2 n2 c2] w fun e w' => e = .returned (.bool (decide (b1 = b2))) ∧ w = w' := by
  have hcv1 := conv_bytes hB1 c1
  have hcv2 := conv_bytes hB2 c2
  rw [hn1] at hcv1
  rw [hn2] at hcv2
  obtain ⟨t1, ht1⟩ := ex_eq (strB b1)
  obtain ⟨t2, ht2⟩ := ex_eq (strB b2)
  have HT : Hid ((t1.toList == t2.toList) = decide (b1 = b2)) := Lib.hid (by
    rw [eq_str, decide_eq_decide]
    exact ⟨fun h => strB_inj hB1.2.1 hB2.2.1 (by rw [ht1, ht2]; exact nb_inj h), fun h => by rw [← ht1, ← ht2, h]⟩)
  rw [ht1] at hcv1
  rw [ht2] at hcv2
  clear ht1 ht2 hB1 hB2 hn1 hn2
  go_enter Tryz.func86, Tryz.ntmps86
  go_wp2_with fail
  go_ret
  exact ⟨by rw [HT.out]; rfl, rfl⟩
end Go.Proofs.YtmcbnhkcjhlbaaaGreatDoor
end
section
namespace Go.Proofs.YtmcbnhkcjhlbaaaGreatDoor
open Go.RowKit
open Kit (Chg)
open Sha (v)
open Go.Proofs.YtmcbnhkcjhlbaaaGreatDoor.One
theorem two_rows1 {w : World} {r1 r2 : Array Value} {T1 T2 : TypeId} : ((w.alloc (.cells r1 T1)).alloc (.cells r2 T2)).heap[w.heap.size]? = some (.cells r1 T1 (0, 0)) := (Below.heap_alloc _ _ _ (by simp)).trans (heap_alloc_new _ _)
theorem two_rows2 {w : World} {r1 r2 : Array Value} {T1 T2 : TypeId} : ((w.alloc (.cells r1 T1)).alloc (.cells r2 T2)).heap[w.heap.size + 1]? = some (.cells r2 T2 (0, 0)) := by
  have := heap_alloc_new (w.alloc (.cells r1 T1)) (.cells r2 T2)
  rwa [World.size_alloc] at this
theorem two_below {w : World} {o1 o2 : Obj} : Below w.heap.size w ((w.alloc o1).alloc o2) := ((Below.refl _ _).alloc (Nat.le_refl _) _).alloc (by simp) _
theorem two_size {w : World} {o1 o2 : Obj} : ((w.alloc o1).alloc o2).heap.size = w.heap.size + 2 := by simp
end Go.Proofs.YtmcbnhkcjhlbaaaGreatDoor
end
section
namespace Go.Proofs.YtmcbnhkcjhlbaaaGreatDoor
open Go.RowKit
open Kit (Chg)
open Sha (v)
open Go.Proofs.YtmcbnhkcjhlbaaaGreatDoor.One

theorem row7 {w : World} {N : Nat} {x0 x1 x2 x3 x4 x5 x6 : Value} {T : TypeId} {f : Nat × Nat} (hg : w.heap[N]? = some (.cells #[x0, x1, x2, x3, x4, x5, x6] T f)) : w.cell? ⟨N, 0, none⟩ = some x0 ∧ w.cell? ⟨N, 1, none⟩ = some x1 ∧ w.cell? ⟨N, 2, none⟩ = some x2 ∧ w.cell? ⟨N, 3, none⟩ = some x3 ∧ w.cell? ⟨N, 4, none⟩ = some x4 ∧ w.cell? ⟨N, 5, none⟩ = some x5 ∧ w.cell? ⟨N, 6, none⟩ = some x6 :=
  ⟨(cell_of_row _ _ _ _ _ _ hg).trans rfl, (cell_of_row _ _ _ _ _ _ hg).trans rfl, (cell_of_row _ _ _ _ _ _ hg).trans rfl, (cell_of_row _ _ _ _ _ _ hg).trans rfl, (cell_of_row _ _ _ _ _ _ hg).trans rfl, (cell_of_row _ _ _ _ _ _ hg).trans rfl, (cell_of_row _ _ _ _ _ _ hg).trans rfl⟩
end Go.Proofs.YtmcbnhkcjhlbaaaGreatDoor
end
section
namespace Go.Proofs.YtmcbnhkcjhlbaaaGreatDoor
open Go.RowKit
open Kit (Chg)
open Sha (v)
open Go.Proofs.YtmcbnhkcjhlbaaaGreatDoor.One

section
variable {α : Type} {f : α → List Value} {n : Nat} {T : TypeId}
theorem rw_len (hf : ∀ x, (f x).length = n) : ∀ l : List α, (l.flatMap f).length = l.length * n
  | [] => by simp
  | x :: l => by rw [List.flatMap_cons, List.length_append, rw_len hf l, hf, List.length_cons, Nat.add_mul]; omega
theorem rw_get (hf : ∀ x, (f x).length = n) : ∀ (l : List α) (i : Nat) (hi : i < l.length) (j : Nat), j < n → (l.flatMap f)[i * n + j]? = (f l[i])[j]?
  | [], i, hi, j, hj => by simp at hi
  | x :: l, 0, hi, j, hj => by
    rw [List.flatMap_cons, List.getElem?_append_left (by rw [hf]; omega), Nat.zero_mul, Nat.zero_add]
    rfl
  | x :: l, i + 1, hi, j, hj => by
    rw [List.flatMap_cons, List.getElem?_append_right (by rw [hf, Nat.add_mul]; omega), hf, show (i + 1) * n + j - n = i * n + j by rw [Nat.add_mul]; omega]
    exact rw_get hf l i (by simpa using hi) j hj
theorem rw_cut (l : List α) (k : Nat) (hk : k < l.length) : l.flatMap f = (l.take k).flatMap f ++ (f l[k] ++ (l.drop (k + 1)).flatMap f) := by
  conv => lhs; rw [← List.take_append_drop k l, List.drop_eq_getElem_cons hk]
  rw [List.flatMap_append, List.flatMap_cons]
theorem rw_set (l : List α) (k : Nat) (hk : k < l.length) (y : α) : (l.set k y).flatMap f = (l.take k).flatMap f ++ (f y ++ (l.drop (k + 1)).flatMap f) := by
  have h := rw_cut (f := f) (l.set k y) k (by rw [List.length_set]; exact hk)
  rw [List.getElem_set_self, List.take_set_of_le (Nat.le_refl k), List.drop_set_of_lt (Nat.lt_succ_self k)] at h
  exact h
theorem putL_mid {N : Nat} : ∀ (vs pre mid post : List Value) (w : World), w.heap[N]? = some (.cells (pre ++ (mid ++ post)).toArray T (0, 0)) → mid.length = vs.length → (putL N pre.length vs w).heap[N]? = some (.cells (pre ++ (vs ++ post)).toArray T (0, 0))
  | [], pre, mid, post, w, h, hl => by
    have : mid = [] := List.eq_nil_of_length_eq_zero hl
    subst this
    exact h
  | v :: vs, pre, c :: mid, post, w, h, hl => by
    have h1 := heap_setCell_same w N pre.length _ T v h
    have h2 : ((pre ++ (c :: mid ++ post)).toArray.setIfInBounds pre.length v) = ((pre ++ [v]) ++ (mid ++ post)).toArray := by
      simp [List.set_append_right]
    rw [h2] at h1
    have h3 := putL_mid vs (pre ++ [v]) mid post (w.setCell ⟨N, pre.length, none⟩ v) h1 (by simpa using hl)
    rw [List.length_append, List.append_assoc] at h3
    exact h3
  | v :: vs, pre, [], post, w, h, hl => by simp at hl
def RowN (f : α → List Value) (n : Nat) (T : TypeId) (w : World) (bl cap : Nat) (xs : List α) : Prop := ∃ rest : List Value, w.heap[bl]? = some (.cells (xs.flatMap f ++ rest).toArray T (0, 0)) ∧ xs.length ≤ cap ∧ cap ≤ maxLen ∧ (xs.flatMap f ++ rest).length = cap * n
theorem RowN.lt {w : World} {bl cap : Nat} {xs : List α} (h : RowN f n T w bl cap xs) : bl < w.heap.size := by
  obtain ⟨_, hg, _⟩ := h
  exact (Array.getElem?_eq_some_iff.1 hg).1
theorem RowN.keep {w w' : World} {bl cap : Nat} {xs : List α} (h : RowN f n T w bl cap xs) (he : w'.heap[bl]? = w.heap[bl]?) : RowN f n T w' bl cap xs := by
  obtain ⟨r, h1, h2⟩ := h
  exact ⟨r, he.trans h1, h2⟩
theorem RowN.later {w w' : World} {bl cap : Nat} {xs : List α} (h : RowN f n T w bl cap xs) (hb : Below w.heap.size w w') : RowN f n T w' bl cap xs := h.keep (hb.block bl h.lt)
theorem RowN.cells (hf : ∀ x, (f x).length = n) {w : World} {bl cap : Nat} {xs : List α} (h : RowN f n T w bl cap xs) (k : Nat) (hk : k < xs.length) : (∀ j, j < n → w.cell? ⟨bl, k * n + j, none⟩ = (f xs[k])[j]?) ∧ ∀ i, w.frozen? ⟨bl, i, none⟩ = false := by
  obtain ⟨r, hg, _⟩ := h
  refine ⟨fun j hj => ?_, fun i => frozen_of_row _ _ _ _ _ hg⟩
  have h1 := rw_get hf xs k hk j hj
  have h2 : (xs.flatMap f ++ r)[k * n + j]? = (f xs[k])[j]? := by
    rw [List.getElem?_append_left, h1]
    rw [rw_len hf]
    have : (k + 1) * n ≤ xs.length * n := Nat.mul_le_mul_right _ hk
    rw [Nat.add_mul] at this
    omega
  rw [cell_of_row _ _ _ _ _ _ hg, ← h2]
  simp
theorem RowN.put (hf : ∀ x, (f x).length = n) {w : World} {bl cap : Nat} {xs : List α} (h : RowN f n T w bl cap xs) (k : Nat) (hk : k < xs.length) (y : α) : RowN f n T (putL bl (k * n) (f y) w) bl cap (xs.set k y) := by
  obtain ⟨r, hg, h1, h2, h3⟩ := h
  refine ⟨r, ?_, by rw [List.length_set]; exact h1, h2, ?_⟩
  · rw [rw_cut xs k hk, List.append_assoc, List.append_assoc] at hg
    have hl : ((xs.take k).flatMap f).length = k * n := by rw [rw_len hf, List.length_take, Nat.min_eq_left (by omega)]
    have h4 := putL_mid (f y) _ (f xs[k]) _ w hg (by rw [hf, hf])
    rw [hl] at h4
    rw [rw_set xs k hk y, List.append_assoc, List.append_assoc]
    exact h4
  · rw [List.length_append, rw_len hf] at h3 ⊢
    rw [List.length_set]
    exact h3
theorem RowN.own (hf : ∀ x, (f x).length = n) (hn : 0 < n) {w : World} {B bl cap : Nat} {xs : List α} (h : RowN f n T w bl cap xs) (hb : B ≤ bl) : w.ownsRow B T n (.slice (some ⟨bl, 0, none⟩) xs.length cap) xs.length (xs.flatMap f) := by
  obtain ⟨r, hg, h1, h2, h3⟩ := h
  exact ⟨rw_len hf xs, .inr ⟨bl, cap, _, rfl, hb, hg, h1, h2, by simpa using h3, by simp [← rw_len hf xs]⟩⟩
theorem RowN.of (hf : ∀ x, (f x).length = n) {w : World} {B bl m cap : Nat} {xs : List α} (h : w.ownsRow B T n (.slice (some ⟨bl, 0, none⟩) m cap) m (xs.flatMap f)) (hn : xs.length = m) : RowN f n T w bl cap xs ∧ B ≤ bl := by
  obtain ⟨hl, hv⟩ := h
  rcases hv with ⟨h0, _⟩ | ⟨g, cap', cur, he, hbg, hg, hnc, hcm, hcs, htake⟩
  · cases h0
  · injection he with e1 e2 e3
    injection e1 with e1
    injection e1 with e1
    subst e1 e3
    refine ⟨⟨cur.toList.drop (m * n), ?_, by omega, hcm, ?_⟩, hbg⟩
    · rw [← htake, List.take_append_drop, Array.toArray_toList]
      exact hg
    · rw [← htake, List.take_append_drop, Array.length_toList]
      exact hcs
end
end Go.Proofs.YtmcbnhkcjhlbaaaGreatDoor
end
section
namespace Go.Proofs.YtmcbnhkcjhlbaaaGreatDoor.Tp
open Go.RowKit
open Kit (Chg)
open Go.Proofs.YtmcbnhkcjhlbaaaGreatDoor.One

def RowsAt {α : Type} (f : α → List Value) (n : Nat) (w : World) (a : Option Addr) (xs : List α) : Prop := xs = [] ∨ ∃ b o, a = some ⟨b, o, none⟩ ∧ ∀ k (h : k < xs.length) j, j < n → w.cell? ⟨b, o + k * n + j, none⟩ = (f xs[k])[j]?
section
variable {α : Type} {f : α → List Value} {n : Nat} {T : TypeId}
theorem RowsAt.cellsOf (hf : ∀ x, (f x).length = n) {w : World} {a : Option Addr} {xs : List α} (h : RowsAt f n w a xs) (k : Nat) (hk : k < xs.length) : ∃ b o, a = some ⟨b, o, none⟩ ∧ b < w.heap.size + (if n = 0 then b + 1 else 0) ∧ ∀ j, j < n → w.cell? ⟨b, o + k * n + j, none⟩ = (f xs[k])[j]? := by
  rcases h with h | ⟨b, o, e, h⟩
  · rw [h] at hk; simp at hk
  · refine ⟨b, o, e, ?_, h k hk⟩
    by_cases h0 : n = 0
    · rw [if_pos h0]; omega
    · have h1 := h k hk 0 (by omega)
      rw [List.getElem?_eq_getElem (by rw [hf]; omega)] at h1
      have := World.block_lt_of_cell? w _ h1
      rw [if_neg h0]
      exact this
theorem RowsAt.one {w : World} {a : Option Addr} {xs : List α} (h : RowsAt f n w a xs) (k : Nat) (hk : k < xs.length) : ∃ b o, a = some ⟨b, o, none⟩ ∧ ∀ j, j < n → w.cell? ⟨b, o + k * n + j, none⟩ = (f xs[k])[j]? := by
  rcases h with h | ⟨b, o, e, h⟩
  · rw [h] at hk; simp at hk
  · exact ⟨b, o, e, h k hk⟩
theorem RowsAt.chg (hf : ∀ x, (f x).length = n) {M : Nat → Nat → Prop} {w w' : World} {a : Option Addr} {xs : List α} (h : RowsAt f n w a xs) (hc : Chg M w w') (hM : ∀ ad, a = some ad → xs ≠ [] → ∀ i, ¬ M ad.block i) : RowsAt f n w' a xs := by
  by_cases hx : xs = []
  · exact .inl hx
  rcases h with h | ⟨b, o, e, h⟩
  · exact .inl h
  · refine .inr ⟨b, o, e, fun k hk j hj => ?_⟩
    have h1 := h k hk j hj
    have h2 : (f xs[k])[j]? = some ((f xs[k])[j]'(by rw [hf]; exact hj)) := List.getElem?_eq_getElem _
    rw [h2] at h1 ⊢
    exact hc.cell h1 (hM _ e hx _)
theorem RowsAt.later (hf : ∀ x, (f x).length = n) {w w' : World} {a : Option Addr} {xs : List α} (h : RowsAt f n w a xs) (hb : Below w.heap.size w w') : RowsAt f n w' a xs :=
  h.chg hf (Chg.of_below (M := fun _ _ => False) hb) (fun _ _ _ _ h => h)
theorem RowsAt.blk (hf : ∀ x, (f x).length = n) (hn : 0 < n) {w : World} {a : Option Addr} {xs : List α} (h : RowsAt f n w a xs) : ∀ ad, a = some ad → xs ≠ [] → ad.block < w.heap.size := fun ad e hne => by
  obtain ⟨b, o, e2, _⟩ := h.one 0 (List.length_pos_iff.2 hne)
  have h1 := h.cellsOf hf 0 (List.length_pos_iff.2 hne)
  obtain ⟨b2, o2, e3, h2, _⟩ := h1
  rw [if_neg (by omega)] at h2
  rw [e3] at e
  cases e
  exact h2
theorem RowsAt.low (hf : ∀ x, (f x).length = n) (hn : 0 < n) {w w' : World} {a : Option Addr} {xs : List α} {N : Nat} (h : RowsAt f n w a xs) (hb : Below N w w') (hk : ∀ ad, a = some ad → xs ≠ [] → ad.block < N) : RowsAt f n w' a xs := by
  by_cases hx : xs = []
  · exact .inl hx
  rcases h with h | ⟨b, o, e, h⟩
  · exact .inl h
  · refine .inr ⟨b, o, e, fun k hk2 j hj => ?_⟩
    exact (hb.cell (p := ⟨b, o + k * n + j, none⟩) (hk ⟨b, o, none⟩ e hx)).trans (h k hk2 j hj)
theorem RowsAt.take {w : World} {a : Option Addr} {xs : List α} (h : RowsAt f n w a xs) (m : Nat) : RowsAt f n w a (xs.take m) := by
  rcases h with h | ⟨b, o, e, h⟩
  · exact .inl (by rw [h]; simp)
  · refine .inr ⟨b, o, e, fun k hk j hj => ?_⟩
    rw [List.getElem_take]
    exact h k (by rw [List.length_take] at hk; omega) j hj
theorem rows_get (hf : ∀ x, (f x).length = n) (hn : 0 < n) (xs : List α) {j : Nat} {u : Value} (h : (xs.flatMap f)[j]? = some u) : ∃ (k : Nat) (hk : k < xs.length), j = k * n + j % n ∧ (f xs[k])[j % n]? = some u := by
  have hl := (List.getElem?_eq_some_iff.1 h).1
  rw [rw_len hf] at hl
  have hk : j / n < xs.length := by rw [Nat.div_lt_iff_lt_mul hn]; exact hl
  refine ⟨j / n, hk, (Nat.div_add_mod' j n).symm, ?_⟩
  have h1 := rw_get hf xs (j / n) hk (j % n) (Nat.mod_lt _ hn)
  rw [Nat.div_add_mod'] at h1
  rw [← h1]
  exact h
theorem RowsAt.src (hf : ∀ x, (f x).length = n) (hn : 0 < n) {w : World} {a : Option Addr} {xs : List α} (h : RowsAt f n w a xs) (c : Nat) (hc : a = none → c = 0) : SrcAt w a xs.length c n (xs.flatMap f) := by
  rcases h with e | ⟨b, o, e, hcell⟩
  · subst e
    cases a with
    | none => exact .inl ⟨rfl, rfl, hc rfl, rfl⟩
    | some ad => exact .inr ⟨by simp, ad, rfl, fun j u hu => by simp at hu⟩
  · subst e
    refine .inr ⟨rw_len hf xs, _, rfl, fun j u hu => ?_⟩
    obtain ⟨k, hk, hj, hu2⟩ := rows_get hf hn xs hu
    rw [add_none, ← hu2, ← hcell k hk (j % n) (Nat.mod_lt _ hn)]
    congr 2
    omega
theorem rowsAt_of (hf : ∀ x, (f x).length = n) {w : World} {bl cap : Nat} {xs : List α} (h : RowN f n T w bl cap xs) : RowsAt f n w (some ⟨bl, 0, none⟩) xs := by
  refine .inr ⟨bl, 0, rfl, fun k hk j hj => ?_⟩
  rw [Nat.zero_add]
  exact (h.cells hf k hk).1 j hj
theorem rows_of_own (hf : ∀ x, (f x).length = n) (hn : 0 < n) {w : World} {base m : Nat} {v : Value} {xs : List α} (h : w.ownsRow base T n v m (xs.flatMap f)) : ∃ a cap, v = .slice a m cap ∧ xs.length = m ∧ m ≤ cap ∧ cap ≤ maxLen ∧ RowsAt f n w a xs ∧ (a = none → cap = 0) ∧ ∀ ad, a = some ad → base ≤ ad.block ∧ ad.block < w.heap.size ∧ ad.off = 0 := by
  have hl := h.1
  rw [rw_len hf] at hl
  have hl2 : xs.length = m := Nat.eq_of_mul_eq_mul_right hn hl
  rcases h.2 with ⟨rfl, h0⟩ | ⟨g, cap, cur, rfl, hbg, hg, hnc, hcm, hcs, htake⟩
  · refine ⟨none, 0, by rw [h0], hl2, by omega, Nat.zero_le _, .inl ?_, fun _ => rfl, (fun ad e => by cases e)⟩
    exact List.eq_nil_of_length_eq_zero (by omega)
  · refine ⟨some ⟨g, 0, none⟩, cap, rfl, hl2, hnc, hcm, ?_, (fun e => by cases e), (fun ad e => by cases e; exact ⟨hbg, (Array.getElem?_eq_some_iff.1 hg).1, rfl⟩)⟩
    exact rowsAt_of hf (RowN.of hf h hl2).1
structure Kind (P : Program) (f : α → List Value) (n : Nat) (ST T : TypeId) (z : Value) (bytes : Nat) : Prop where
  len : ∀ x, (f x).length = n
  one : ∀ x, ∀ v ∈ f x, v.oneCell' = true
  pos : 0 < n
  under : P.underlying ST = some (.slice T)
  info : (P.info? T).map (fun i => (i.zero, i.size, i.bytes)) = some (some z, n, bytes)
  zlen : z.cells.size = n
  most : bytes ≤ 4096
theorem flat_one {P : Program} {ST : TypeId} {z : Value} {bytes : Nat} (K : Kind P f n ST T z bytes) (xs : List α) : ∀ v ∈ xs.flatMap f, v.oneCell' = true := fun v h => by
  obtain ⟨x, _, hx⟩ := List.mem_flatMap.1 h
  exact K.one x v hx
theorem info_parts3 {P : Program} {t : TypeId} {z : Value} {n b : Nat} (h : (P.info? t).map (fun i => (i.zero, i.size, i.bytes)) = some (some z, n, b)) : ∃ i, P.info? t = some i ∧ i.zero = some z ∧ i.size = n ∧ i.bytes = b := by
  cases hi : P.info? t with
  | none => rw [hi] at h; cases h
  | some i =>
    rw [hi] at h
    simp only [Option.map_some, Option.some.injEq, Prod.mk.injEq] at h
    exact ⟨i, rfl, h.1, h.2.1, h.2.2⟩
theorem app_any {P : Program} {ST : TypeId} {z : Value} {bytes : Nat} (K : Kind P f n ST T z bytes) {ops : Array Oper} {rest : List Oper} {o : Oper} {a : Act} {Q : Exit → Act → World → Prop} {w0 : World} (hgd : o.guard = none) (s x : Operand) (ho : o.op = .call { callee := .builtin .append, args := #[s, x], argTypes := #[ST, ST] })
    (base : Nat) (v : Value) (L : Nat) (xs : List α) (hs : a.eval s = v) (hown : w0.ownsRow base T n v L (xs.flatMap f)) (hb : base ≤ w0.heap.size) (hL : L ≤ 5000000)
    (ao : Option Addr) (m c : Nat) (ys : List α) (hx : a.eval x = .slice ao m c) (hsrc : SrcAt w0 ao m c n (ys.flatMap f)) (hm : m ≤ 5000000)
    (h : ∀ v' w', w'.ownsRow base T n v' (L + m) ((xs ++ ys).flatMap f) → w0.grownBy w' v.ownBlock → wpList P ops Q rest (a.put o.dst v') w') : wpList P ops Q (o :: rest) a w0 := by
  obtain ⟨i0, hi, hz0, hz1, hz2⟩ := info_parts3 K.info
  refine wpList_append_src hgd s x ST ho base T i0 z n bytes K.under hi hz0 hz1 hz2 K.zlen K.pos v L _ hs hown ao m c _ hx hsrc (flat_one K ys) (by unfold maxLen; omega) ?_ hb ?_
  · exact Nat.le_trans (Nat.mul_le_mul (show L + m ≤ 10000000 by omega) K.most) (by omega)
  · intro v' w' h1 h2
    exact h v' w' (by rw [List.flatMap_append]; exact h1) h2
end
end Go.Proofs.YtmcbnhkcjhlbaaaGreatDoor.Tp
end
section
namespace Go.Proofs.YtmcbnhkcjhlbaaaGreatDoor.Tp
open Go.RowKit
open Kit (Chg)
open Go.Proofs.YtmcbnhkcjhlbaaaGreatDoor.One

structure FE where
  path : ByteArray
  kind : Int
  mode : Int
  time : Int
  data : List Nat
  link : ByteArray
structure FE.ok (e : FE) : Prop where
  vp : VP e.path.data.toList
  mode0 : 0 ≤ e.mode
  mode1 : e.mode ≤ 511
  time0 : 0 ≤ e.time
  file : e.kind = 1 → e.data.length ≤ 1048576 ∧ e.link.size = 0
  dir : e.kind = 2 → e.data = [] ∧ e.link.size = 0
  lnk : e.kind = 3 → e.data = [] ∧ 1 ≤ e.link.size ∧ e.link.size ≤ 512 ∧ ∀ c ∈ e.link.data.toList, c ≠ 0
  kinds : e.kind = 1 ∨ e.kind = 2 ∨ e.kind = 3
def FE.p (e : FE) : Bs := e.path.data.toList
structure OkTree (es : List FE) : Prop where
  len : es.length ≤ 4096
  ok : ∀ e ∈ es, e.ok
  asc : es.Pairwise (fun a b => cmpP a.p b.p < 0)
  par : ∀ i (h : i < es.length), parP es[i].p ≠ [] → ∃ j, ∃ h2 : j < i, (es[j]'(by omega)).p = parP es[i].p ∧ (es[j]'(by omega)).kind = 2
structure FV where
  e : FE
  a : Option Addr
  c : Nat
def FV.cells (x : FV) : List Value := [.string x.e.path, .int .i64 x.e.kind, .int .i64 x.e.mode, .int .i64 x.e.time, .slice x.a x.e.data.length x.c, .string x.e.link]
def FV.row (x : FV) : Array Value := #[.string x.e.path, .int .i64 x.e.kind, .int .i64 x.e.mode, .int .i64 x.e.time, .slice x.a x.e.data.length x.c, .string x.e.link]
theorem FV.len (x : FV) : x.cells.length = 6 := rfl
theorem FV.one (x : FV) : ∀ v ∈ x.cells, v.oneCell' = true := fun v h => by
  simp only [FV.cells, List.mem_cons, List.not_mem_nil, or_false] at h
  rcases h with rfl | rfl | rfl | rfl | rfl | rfl <;> rfl
def feZ : Value := .agg #[.string ByteArray.empty, .int .i64 0, .int .i64 0, .int .i64 0, .slice none 0 0, .string ByteArray.empty]
theorem kindFE : Kind Tryz.prog FV.cells 6 22 54 feZ 80 := ⟨FV.len, FV.one, by decide, Tryz.underlying22, by kernel_rfl, rfl, by decide⟩
structure FV.ok (w : World) (x : FV) : Prop where
  nil : x.a = none → x.c = 0
  cap : x.e.data.length ≤ x.c
  dat : BytesAt w x.a x.e.data
  sp : x.e.path.size ≤ 4000000
  sl : x.e.link.size ≤ 4000000
  sd : x.e.data.length ≤ 4000000
theorem FV.ok.later {w w' : World} {x : FV} (h : x.ok w) (hb : Below w.heap.size w w') : x.ok w' := ⟨h.nil, h.cap, h.dat.later hb, h.sp, h.sl, h.sd⟩
def FEsAt (w : World) (a : Option Addr) (xs : List FV) : Prop := RowsAt FV.cells 6 w a xs ∧ ∀ x ∈ xs, x.ok w
theorem FEsAt.later {w w' : World} {a : Option Addr} {xs : List FV} (h : FEsAt w a xs) (hb : Below w.heap.size w w') : FEsAt w' a xs := ⟨h.1.later FV.len hb, fun x hx => (h.2 x hx).later hb⟩
theorem FEsAt.take {w : World} {a : Option Addr} {xs : List FV} (h : FEsAt w a xs) (m : Nat) : FEsAt w a (xs.take m) := ⟨h.1.take m, fun x hx => h.2 x (List.mem_of_mem_take hx)⟩
def SixAt (w : World) (b o : Nat) (x : FV) : Prop := w.cell? ⟨b, o, none⟩ = some (.string x.e.path) ∧ w.cell? ⟨b, o + 1, none⟩ = some (.int .i64 x.e.kind) ∧ w.cell? ⟨b, o + 2, none⟩ = some (.int .i64 x.e.mode) ∧ w.cell? ⟨b, o + 3, none⟩ = some (.int .i64 x.e.time) ∧ w.cell? ⟨b, o + 4, none⟩ = some (.slice x.a x.e.data.length x.c) ∧ w.cell? ⟨b, o + 5, none⟩ = some (.string x.e.link)
theorem FEsAt.six {w : World} {a : Option Addr} {xs : List FV} (h : FEsAt w a xs) (k : Nat) (hk : k < xs.length) : ∃ b o, a = some ⟨b, o, none⟩ ∧ SixAt w b (o + k * 6) xs[k] := by
  obtain ⟨b, o, e, hc⟩ := h.1.one k hk
  exact ⟨b, o, e, hc 0 (by decide), hc 1 (by decide), hc 2 (by decide), hc 3 (by decide), hc 4 (by decide), hc 5 (by decide)⟩
theorem six_of_row {w : World} {b : Nat} {x : FV} {T : TypeId} {f : Nat × Nat} (h : w.heap[b]? = some (.cells x.row T f)) : SixAt w b 0 x :=
  ⟨(cell_of_row _ _ _ _ _ _ h).trans rfl, (cell_of_row _ _ _ _ _ _ h).trans rfl, (cell_of_row _ _ _ _ _ _ h).trans rfl, (cell_of_row _ _ _ _ _ _ h).trans rfl, (cell_of_row _ _ _ _ _ _ h).trans rfl, (cell_of_row _ _ _ _ _ _ h).trans rfl⟩
theorem SixAt.low {w w' : World} {b o N : Nat} {x : FV} (h : SixAt w b o x) (hb : Below N w w') (hN : b < N) : SixAt w' b o x :=
  ⟨(hb.cell (p := ⟨b, o, none⟩) hN).trans h.1, (hb.cell (p := ⟨b, o + 1, none⟩) hN).trans h.2.1, (hb.cell (p := ⟨b, o + 2, none⟩) hN).trans h.2.2.1, (hb.cell (p := ⟨b, o + 3, none⟩) hN).trans h.2.2.2.1, (hb.cell (p := ⟨b, o + 4, none⟩) hN).trans h.2.2.2.2.1, (hb.cell (p := ⟨b, o + 5, none⟩) hN).trans h.2.2.2.2.2⟩
theorem SixAt.lt {w : World} {b o : Nat} {x : FV} (h : SixAt w b o x) : b < w.heap.size := World.block_lt_of_cell? w _ h.1
/-! ### Unite, Parent -/
theorem joinP_take_succ (ps : List Bs) (k : Nat) (h : k < ps.length) : joinP (ps.take (k + 1)) = if k = 0 then ps[k] else joinP (ps.take k) ++ 47 :: ps[k] := by
  rw [List.take_succ_eq_append_getElem h]
  by_cases h0 : k = 0
  · subst h0
    rw [if_pos rfl]
    rfl
  · rw [if_neg h0, joinP_snoc]
    intro e
    have h2 : (ps.take k).length = k := by rw [List.length_take]; omega
    rw [e] at h2
    exact h0 h2.symm
theorem joinP_len (ps : List Bs) (k : Nat) : (joinP (ps.take k)).length ≤ (joinP ps).length := by
  induction ps generalizing k with
  | nil => simp
  | cons p ps ih =>
    cases k with
    | zero => simp [joinP]
    | succ k =>
      rw [List.take_succ_cons]
      by_cases h1 : ps = []
      · subst h1; simp
      · by_cases h2 : ps.take k = []
        · rw [h2, joinP_cons p ps h1, List.length_append]
          show p.length ≤ _
          omega
        · rw [joinP_cons p _ h2, joinP_cons p ps h1, List.length_append, List.length_append, List.length_cons, List.length_cons]
          have := ih k
          omega
set_option maxRecDepth 1000000 in
set_option maxHeartbeats 2000000 in
theorem refUnite_any (a : Option Addr) (n cap : Nat) (ss : List ByteArray) (hn : ss.length = n) (hl : (joinP (ss.map (·.data.toList))).length ≤ 4000000) (hm : n ≤ 8000000) (w : World) (hS : StrsAt w a ss) : Calls Tryz.prog 57 #[.slice a n cap] w fun e w' => ∃ u : ByteArray, e = .returned (.string u) ∧ u.data.toList = joinP (ss.map (·.data.toList)) ∧ w' = w := by
  have HN := Lib.hid hn
  have HL := Lib.hid hl
  have HS := Lib.hid hS
  clear hn hl hS
  go_enter Tryz.func57, Tryz.ntmps57
  go_wp2
  go_loop [3, 8] (fun o i => ∃ (k : Nat) (O : ByteArray), k ≤ n ∧ o = .string O ∧ i = .int .i64 k ∧ O.data.toList = joinP ((ss.map (·.data.toList)).take k)) (fun _ i => n - (intOf i).toNat)
  case atStart => exact ⟨0, ByteArray.empty, Nat.zero_le _, rfl, rfl, by simp [joinP]⟩
  case round =>
    obtain ⟨k, O, hk, rfl, rfl, hO⟩ := hrel
    have HO := Lib.hid hO
    clear hO
    by_cases hlt : k < n
    · obtain ⟨b, o, rfl, hcell⟩ : ∃ b o, a = some ⟨b, o, none⟩ ∧ w.cell? ⟨b, o + k, none⟩ = some (.string (ss.getD k ByteArray.empty)) := by
        rcases HS.out with h | ⟨b, o, e, h⟩
        · have := HN.out; rw [h] at this; simp at this; omega
        · exact ⟨b, o, e, h k (by rw [HN.out]; exact hlt)⟩
      obtain ⟨p, hp⟩ : ∃ p, ss.getD k ByteArray.empty = p := ⟨_, rfl⟩
      rw [hp] at hcell
      have hpm : (ss.map (·.data.toList))[k]'(by rw [List.length_map, HN.out]; exact hlt) = p.data.toList := by
        rw [List.getElem_map, ← hp, List.getD_eq_getElem?_getD, List.getElem?_eq_getElem (by rw [HN.out]; exact hlt)]
        rfl
      have HJ : Hid (joinP ((ss.map (·.data.toList)).take (k + 1)) = if k = 0 then p.data.toList else O.data.toList ++ 47 :: p.data.toList) := Lib.hid (by
        rw [joinP_take_succ _ k (by rw [List.length_map, HN.out]; exact hlt), hpm, HO.out])
      have HJL : Hid ((if k = 0 then p.data.toList else O.data.toList ++ 47 :: p.data.toList).length ≤ 4000000) := Lib.hid (by
        rw [← HJ.out]
        have := joinP_len (ss.map (·.data.toList)) (k + 1)
        have := HL.out
        omega)
      clear hp hpm
      by_cases h0 : k = 0
      · have HO0 : Hid (O = ByteArray.empty) := Lib.hid (by
          have h1 := HO.out
          rw [h0] at h1
          apply ByteArray.ext
          apply Array.toList_inj.1
          rw [h1]
          rfl)
        have hps : p.size ≤ 4000000 := by have := HJL.out; rw [if_pos h0, bytes_len] at this; exact this
        have hadd := fun (w : World) => run_string_add_sum (P := Tryz.prog) w O p (by rw [HO0.out]; show 0 + p.size ≤ _; omega)
        have hz0 : ¬ (0 : Int) < (k : Int) := by omega
        have HK0 := Lib.hid h0
        clear h0 hps
        go_wp2
        go_round
        case rel =>
          refine ⟨k + 1, O ++ p, by omega, rfl, by go_num, ?_⟩
          rw [HJ.out, if_pos HK0.out, append_data, HO0.out]
          rfl
        case measure => simp [intOf]; omega
      · have hps : O.size + p.size ≤ 4000000 := by have := HJL.out; rw [if_neg h0, List.length_append, List.length_cons, bytes_len, bytes_len] at this; omega
        have hadd1 := fun (w : World) => run_string_add_sum (P := Tryz.prog) w O { data := #[47] } (by show O.size + 1 ≤ _; omega)
        have hadd := fun (w : World) => run_string_add_sum (P := Tryz.prog) w (O ++ { data := #[47] }) p (by rw [ByteArray.size_append]; show O.size + 1 + p.size ≤ _; omega)
        have hz0 : (0 : Int) < (k : Int) := by omega
        have HK0 := Lib.hid h0
        clear h0 hps
        go_wp2
        go_round
        case rel =>
          refine ⟨k + 1, (O ++ { data := #[47] }) ++ p, by omega, rfl, by go_num, ?_⟩
          rw [HJ.out, if_neg HK0.out, append_data, append_data, List.append_assoc]
          rfl
        case measure => simp [intOf]; omega
    · have HE : Hid (O.data.toList = joinP (ss.map (·.data.toList))) := Lib.hid (by
        rw [HO.out, List.take_of_length_le (by rw [List.length_map, HN.out]; omega)])
      go_wp2
      go_ret
      exact ⟨O, rfl, HE.out, rfl⟩
theorem joinP_dropLast (l : Bs) : (parP l).length ≤ l.length := by
  have h1 := joinP_len (cutS l) ((cutS l).length - 1)
  rw [← List.dropLast_eq_take, joinP_cutS l.length l (Nat.le_refl _)] at h1
  exact h1
theorem strsAt_take {w : World} {a : Option Addr} {ss : List ByteArray} (h : StrsAt w a ss) (m : Nat) : StrsAt w a (ss.take m) := by
  rcases h with h | ⟨b, o, e, h⟩
  · exact .inl (by rw [h]; simp)
  · refine .inr ⟨b, o, e, fun i hi => ?_⟩
    rw [List.length_take] at hi
    rw [h i (by omega), List.getD_eq_getElem?_getD, List.getD_eq_getElem?_getD, List.getElem?_take_of_lt (by omega)]
set_option maxRecDepth 100000 in
set_option maxHeartbeats 2000000 in
theorem refParent_any (s : ByteArray) (hs : s.size ≤ 4000000) (w : World) : Calls Tryz.prog 25 #[.string s] w fun e w' => ∃ u : ByteArray, e = .returned (.string u) ∧ u.data.toList = parP s.data.toList ∧ Below w.heap.size w w' := by
  have HD := Lib.hid (refDivide_any s hs)
  have HS := Lib.hid hs
  clear hs
  go_enter Tryz.func25, Tryz.ntmps25
  go_wp2_with fail
  refine (HD.out _).mono ?_
  rintro e W ⟨a, n, cap, rfl, ss, hn, hc, hS, he, hb⟩
  have HX := Lib.hid (And.intro hn (And.intro he hb))
  have hl := congrArg List.length he
  rw [List.length_map, hn, cutS_length] at hl
  have hl2 := List.count_le_length (a := (47 : UInt8)) (l := s.data.toList)
  rw [bytes_len] at hl2
  have hn1 : 1 ≤ n := by omega
  have hn2 : n ≤ 4000001 := by have := HS.out; omega
  obtain ⟨m, hm⟩ : ∃ m : Nat, n = m + 1 := ⟨n - 1, by omega⟩
  subst hm
  have HU := Lib.hid (fun (cap' : Nat) (V : World) (h : StrsAt V a ss) => refUnite_any a m cap' (ss.take m) (by rw [List.length_take, hn]; omega) (by
    rw [List.map_take, he, show m = (cutS s.data.toList).length - 1 by rw [← he, List.length_map, hn]; rfl, ← List.dropLast_eq_take]
    have h1 := joinP_dropLast s.data.toList
    rw [bytes_len] at h1
    have := HS.out
    exact Nat.le_trans h1 this) (by omega) V (strsAt_take h m))
  have HPE : Hid (joinP ((ss.take m).map (·.data.toList)) = parP s.data.toList) := Lib.hid (by
    rw [List.map_take, he, show m = (cutS s.data.toList).length - 1 by rw [← he, List.length_map, hn]; rfl, ← List.dropLast_eq_take]
    rfl)
  have HST := Lib.hid hS
  clear hn he hb hl hl2 hS
  have hmc : (m : Int) ≤ (cap : Int) := by omega
  have hm0 : (0 : Int) ≤ (m : Int) := by omega
  go_wp2_with fail
  refine (HU.out _ _ HST.out).mono ?_
  rintro e W1 ⟨u, rfl, hu, rfl⟩
  have HUU := Lib.hid hu
  clear hu
  go_wp2
  go_ret
  exact ⟨u, rfl, by rw [HUU.out, HPE.out], HX.out.2.2⟩
end Go.Proofs.YtmcbnhkcjhlbaaaGreatDoor.Tp
end
