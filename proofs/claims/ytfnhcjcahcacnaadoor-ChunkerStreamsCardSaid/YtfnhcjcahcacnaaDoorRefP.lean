/- The specification's Marked and Primary, and the comparison of lists of numbers. -/
import Derived.Test.YtfnhcjcahcacnaaDoorPrim
namespace Go.Proofs.YtfnhcjcahcacnaaDoor
open Go.RowKit
open Roll (u)
open Kit (Chg)
open Chk

theorem ne_block {b b' i j : Nat} (h : b ≠ b') : (⟨b, i, none⟩ : Addr) ≠ ⟨b', j, none⟩ := fun e => h (congrArg Addr.block e)
theorem IntsAt.some {w : World} {a : Option Addr} {zs : List Nat} (h : IntsAt w a zs) (hl : 0 < zs.length) : ∃ b o, a = Option.some ⟨b, o, none⟩ ∧ ∀ i, i < zs.length → w.cell? ⟨b, o + i, none⟩ = Option.some (.int .i64 ((zs.getD i 0 : Nat) : Int)) := by
  rcases h with e | e
  · subst e; simp at hl
  · exact e
theorem take_succ_eq (zs ys : List Nat) (k : Nat) (h1 : k < zs.length) (h2 : k < ys.length) (h : zs.take k = ys.take k) (he : zs.getD k 0 = ys.getD k 0) : zs.take (k + 1) = ys.take (k + 1) := by
  rw [← take_snoc zs k h1, ← take_snoc ys k h2, h, he]
theorem ne_of_getD (zs ys : List Nat) (k : Nat) (he : zs.getD k 0 ≠ ys.getD k 0) : zs ≠ ys := fun h => he (by rw [h])

set_option maxHeartbeats 400000 in
theorem ints_any (a a' : Option Addr) (cap cap' : Nat) (zs ys : List Nat) (hl : zs.length ≤ 1000000) (hl' : ys.length ≤ 1000000) (w : World) (h : IntsAt w a zs) (h' : IntsAt w a' ys) :
    Calls Tryd.prog 49 #[.slice a zs.length cap, .slice a' ys.length cap'] w fun e w' => e = .returned (.bool (decide (zs = ys))) ∧ Below w.heap.size w w' := by
  have HH := Lib.hid h
  have HH' := Lib.hid h'
  clear h h'
  by_cases he : zs.length = ys.length
  · have HL := Lib.hid he
    have hne : ((zs.length : Int) == (ys.length : Int)) = true := by rw [beq_iff_eq]; omega
    clear he
    go_enter Tryd.func49, Tryd.ntmps49
    go_wp2_with fail
    go_loopw [5] (fun i wr => ∃ k : Nat, k ≤ zs.length ∧ i = .int .i64 k ∧ Hid (zs.take k = ys.take k) ∧ Hid (Below w.heap.size w wr)) (fun i _ => zs.length - (intOf i).toNat)
    case atStart => exact ⟨0, Nat.zero_le _, rfl, rfl, Below.refl _ _⟩
    case round =>
      obtain ⟨k, hk, rfl, HT, HB⟩ := hrel
      by_cases hlt : k < zs.length
      · have hlt' : k < ys.length := by have := HL.out; omega
        obtain ⟨b, o, rfl, hc⟩ := (HH.out.later HB.out).some (by omega)
        obtain ⟨b', o', rfl, hc'⟩ := (HH'.out.later HB.out).some (by omega)
        have hck := hc k hlt
        have hck' := hc' k hlt'
        have HS := Lib.hid (take_succ_eq zs ys k hlt hlt' HT.out)
        have HN := Lib.hid (ne_of_getD zs ys k)
        clear hc hc'
        generalize zs.getD k 0 = x at hck HS HN
        generalize ys.getD k 0 = y at hck' HS HN
        by_cases hxy : x = y
        · subst hxy
          have HS2 := Lib.hid (HS.out rfl)
          clear HS HN
          go_wp2_with fail
          go_quiet (fail)
          go_wp2
          go_roundw
          case rel => exact ⟨k + 1, by omega, by go_num, HS2.out, below_drewN HB.out _⟩
          case measure => simp [intOf]; omega
        · have hd : ((x : Int) == (y : Int)) = false := by rw [beq_eq_false_iff_ne]; omega
          have HD := Lib.hid (decide_eq_false (HN.out hxy))
          clear hxy
          go_wp2_with fail
          go_quiet (fail)
          go_wp2
          go_ret
          exact ⟨by rw [HD.out]; rfl, below_drewN HB.out _⟩
      · have e : k = zs.length := by omega
        have ht := HT.out
        rw [e, List.take_length, HL.out, List.take_length] at ht
        have HD := Lib.hid (decide_eq_true ht)
        clear ht e
        go_wp2
        go_ret
        exact ⟨by rw [HD.out]; rfl, HB.out⟩
  · have hne : ((zs.length : Int) == (ys.length : Int)) = false := by rw [beq_eq_false_iff_ne]; omega
    have HD := Lib.hid (decide_eq_false (show ¬ zs = ys from fun e => he (by rw [e])))
    clear he
    go_enter Tryd.func49, Tryd.ntmps49
    go_wp2_with fail
    go_ret
    exact ⟨by rw [HD.out]; rfl, Below.refl _ _⟩

theorem Tryd.info4 : (Tryd.prog.info? 4).map (fun i => (i.zero, i.size, i.bytes)) = some (some (.bool false), 1, 1) := by kernel_rfl

/-- The row of what is marked, up to p of n. -/
def MkRow (w : World) (M : Nat) (c : Cut) (ds : List Nat) (p : Nat) : Prop :=
  ∃ cs : Array Value, w.heap[M]? = some (.cells cs 4 (0, 0)) ∧ cs.size = ds.length + 1 ∧ ∀ i, i ≤ ds.length → cs[i]? = some (.bool (if i < p then mk c (ds.take i) else false))
theorem MkRow.cell {w : World} {M : Nat} {c : Cut} {ds : List Nat} {p : Nat} (h : MkRow w M c ds p) (i : Nat) (hi : i ≤ ds.length) : w.cell? ⟨M, i, none⟩ = some (.bool (if i < p then mk c (ds.take i) else false)) := by
  obtain ⟨cs, h1, _, h3⟩ := h
  rw [cell_of_row _ _ _ _ _ _ h1, h3 i hi]
theorem MkRow.free {w : World} {M : Nat} {c : Cut} {ds : List Nat} {p : Nat} (h : MkRow w M c ds p) (i : Nat) : w.frozen? ⟨M, i, none⟩ = false := by
  obtain ⟨cs, h1, _, h3⟩ := h
  exact frozen_of_row _ _ _ _ _ h1
theorem MkRow.set {w w' : World} {M : Nat} {c : Cut} {ds : List Nat} {p : Nat} (h : MkRow w M c ds p) (hp : p ≤ ds.length) (hw : w'.heap = w.heap) : MkRow (w'.setCell ⟨M, p, none⟩ (.bool (mk c (ds.take p)))) M c ds (p + 1) := by
  obtain ⟨cs, h1, h2, h3⟩ := h
  refine ⟨cs.setIfInBounds p (.bool (mk c (ds.take p))), heap_setCell_same _ _ _ _ _ _ (by rw [hw]; exact h1), by simp [h2], fun i hi => ?_⟩
  by_cases e : i = p
  · subst e
    rw [if_pos (by omega), Array.getElem?_setIfInBounds_self_of_lt (by omega)]
  · rw [Array.getElem?_setIfInBounds_ne (by omega), h3 i hi]
    by_cases hip : i < p
    · rw [if_pos hip, if_pos (by omega)]
    · rw [if_neg hip, if_neg (by omega)]
theorem MkRow.later {w w' : World} {M : Nat} {c : Cut} {ds : List Nat} {p : Nat} (h : MkRow w M c ds p) (hb : Below w.heap.size w w') : MkRow w' M c ds p := by
  obtain ⟨cs, h1, h2, h3⟩ := h
  exact ⟨cs, (hb.block M (Array.getElem?_eq_some_iff.1 h1).1).trans h1, h2, h3⟩
theorem made_one (v : Value) (n i : Nat) (h : i < n) : (madeCells #[v] n)[i]? = some v := by
  unfold madeCells
  rw [Array.getElem?_map, Array.getElem?_range]
  simp [h, Nat.mod_one]
/-- Below the window nothing is marked. -/
theorem MkRow.start {w : World} {M : Nat} {c : Cut} {ds : List Nat} (h : w.heap[M]? = some (.cells (madeCells (Value.bool false).cells (ds.length + 1)) 4 (0, 0))) : MkRow w M c ds c.win := by
  refine ⟨_, h, by simp [madeCells], fun i hi => ?_⟩
  have e : (if i < c.win then mk c (ds.take i) else false) = false := by
    split
    · unfold mk
      rw [decide_eq_false (by rw [List.length_take]; omega)]; rfl
    · rfl
  rw [e]
  exact made_one _ _ _ (by omega)

theorem BytesAt.drew {w : World} {a : Option Addr} {bs : List Nat} (h : BytesAt w a bs) : BytesAt w.drew a bs := h
theorem MkRow.drew {w : World} {M : Nat} {c : Cut} {ds : List Nat} {p : Nat} (h : MkRow w M c ds p) : MkRow w.drew M c ds p := h
theorem MkRow.keep {w w' : World} {M : Nat} {c : Cut} {ds : List Nat} {p B : Nat} (h : MkRow w M c ds p) (hc : Chg (fun g _ => B ≤ g) w w') (hM : M < B) : MkRow w' M c ds p := by
  obtain ⟨cs, h1, h2, h3⟩ := h
  exact ⟨cs, (hc.other M (Array.getElem?_eq_some_iff.1 h1).1 (fun i hi => by omega)).trans h1, h2, h3⟩
theorem MkRow.full {w : World} {M : Nat} {c : Cut} {ds : List Nat} {p : Nat} (h : MkRow w M c ds p) (hp : ds.length + 1 ≤ p) : MkRow w M c ds (ds.length + 1) := by
  obtain ⟨cs, h1, h2, h3⟩ := h
  exact ⟨cs, h1, h2, fun i hi => by rw [h3 i hi, if_pos (by omega), if_pos (by omega)]⟩
theorem hash_sub (s : BitVec 64) (b o k win n cap : Nat) (ds : List Nat) (hk : k + win ≤ ds.length) (hn : n = win) (w : World) (h : BytesAt w (some ⟨b, o, none⟩) ds) :
    Calls Tryd.prog 31 #[.int .u64 (u s), .slice (some ⟨b, o + k, none⟩) n cap] w fun e w' => e = .returned (.int .u64 (u (Roll.hash s ((ds.drop k).take win)))) ∧ w' = w := by
  subst hn
  exact (hash_len s (some ⟨b, o + k, none⟩) cap ((ds.drop k).take n) n (by rw [List.length_take, List.length_drop]; omega) w ((h.drop b o k rfl).take n)).mono fun _ _ ⟨h1, h2⟩ => ⟨h1, h2.symm⟩
theorem refZeros_sym (x : BitVec 64) (w : World) : Calls Tryd.prog 33 #[.int .u64 (u x)] w fun e w' => e = .returned (.int .i64 (tz x)) ∧ w' = w := (refZeros_any x w).mono fun _ _ ⟨h1, h2⟩ => ⟨h1, h2.symm⟩
theorem mk_at (c : Cut) (ds : List Nat) (p : Nat) (h1 : c.win ≤ p) (h2 : p ≤ ds.length) : mk c (ds.take p) = decide (c.bits ≤ tz (Roll.hash c.seed ((ds.drop (p - c.win)).take c.win))) := by
  unfold mk lastOf
  rw [List.length_take, Nat.min_eq_left h2, decide_eq_true h1, Bool.true_and, List.drop_take, show p - (p - c.win) = c.win by omega]

def MarkedRel (w : World) (M : Nat) (c : Cut) (ds : List Nat) (i : Value) (wr : World) : Prop :=
  ∃ k : Nat, c.win ≤ k ∧ (k ≤ ds.length + 1 ∨ k = c.win) ∧ i = .int .i64 k ∧ MkRow wr M c ds k ∧ Below w.heap.size w wr ∧ M < wr.heap.size ∧ wr.cell? ⟨w.heap.size, 2, none⟩ = some (.int .i64 c.win) ∧ wr.cell? ⟨w.heap.size, 3, none⟩ = some (.int .i64 c.bits) ∧ wr.cell? ⟨w.heap.size, 4, none⟩ = some (.int .u64 (u c.seed))

theorem cells_of_made {w : World} {base e g n : Nat} {v : Value} (h : w.ownsRow base e 1 (.slice (some ⟨g, 0, none⟩) n n) n (madeCells #[v] n).toList) : w.heap[g]? = some (.cells (madeCells #[v] n) e (0, 0)) := by
  rcases h.2 with ⟨h1, _⟩ | ⟨g', cap, cur, h1, _, hg, _, _, hcs, ht⟩
  · cases h1
  · cases h1
    rw [hg]
    have e1 : cur.toList.take (n * 1) = cur.toList := List.take_of_length_le (by rw [Array.length_toList, hcs]; exact Nat.le_refl _)
    have e2 : cur = madeCells #[v] n := by
      rw [← Array.toList_inj, ← e1]; exact ht
    rw [e2]

theorem marked_start {w w1 : World} {c : Cut} {ds : List Nat}
    (hown : w1.ownsRow w.heap.size 4 1 (.slice (some ⟨(w.alloc (.cells #[.int .i64 c.mn, .int .i64 c.mx, .int .i64 c.win, .int .i64 c.bits, .int .u64 (u c.seed)] 48)).heap.size, 0, none⟩) (ds.length + 1) (ds.length + 1)) (ds.length + 1) (madeCells (Value.bool false).cells ((ds.length + 1) * 1)).toList)
    (hgr : (w.alloc (.cells #[.int .i64 c.mn, .int .i64 c.mx, .int .i64 c.win, .int .i64 c.bits, .int .u64 (u c.seed)] 48)).grownBy w1 none) :
    Hid (Below w.heap.size w w1) ∧ Hid (MkRow w1 (w.heap.size + 1) c ds c.win) ∧ Hid (w.heap.size + 1 < w1.heap.size) ∧ w1.cell? ⟨w.heap.size, 2, none⟩ = some (.int .i64 c.win) ∧ w1.cell? ⟨w.heap.size, 3, none⟩ = some (.int .i64 c.bits) ∧ w1.cell? ⟨w.heap.size, 4, none⟩ = some (.int .u64 (u c.seed)) := by
  rw [World.size_alloc, Nat.mul_one] at hown
  have hrow := cells_of_made hown
  have hb : Below w.heap.size w w1 := ((Chg.alloc1 (M := fun _ _ => False) w _).trans (Chg.of_grown hgr (fun k i e => by cases e))).below (Nat.le_refl _) (fun _ _ _ h => h)
  have hblk : w1.heap[w.heap.size]? = some (.cells #[.int .i64 c.mn, .int .i64 c.mx, .int .i64 c.win, .int .i64 c.bits, .int .u64 (u c.seed)] 48 (0, 0)) := (hgr.block w.heap.size (by simp) (by simp)).trans (heap_alloc_new _ _)
  exact ⟨hb, MkRow.start hrow, (Array.getElem?_eq_some_iff.1 hrow).1, by rw [cell_of_row _ _ _ _ _ _ hblk]; rfl, by rw [cell_of_row _ _ _ _ _ _ hblk]; rfl, by rw [cell_of_row _ _ _ _ _ _ hblk]; rfl⟩

set_option maxRecDepth 100000 in
set_option maxHeartbeats 800000 in
theorem marked_any (c : Cut) (hk : c.Ok) (a : Option Addr) (cap : Nat) (ds : List Nat) (hl : ds.length ≤ 1000000) (hcap : ds.length ≤ cap) (w : World) (h : BytesAt w a ds) :
    Calls Tryd.prog 62 #[.agg #[.int .i64 c.mn, .int .i64 c.mx, .int .i64 c.win, .int .i64 c.bits, .int .u64 (u c.seed)], .slice a ds.length cap] w fun e w' =>
      ∃ M, w.heap.size ≤ M ∧ e = .returned (.slice (some ⟨M, 0, none⟩) (ds.length + 1) (ds.length + 1)) ∧ MkRow w' M c ds (ds.length + 1) ∧ Below w.heap.size w w' := by
  have HH := Lib.hid h
  have HK := Lib.hid hk
  clear h hk
  obtain ⟨i0, hi, hz0, hz1, hz2⟩ := info_parts Tryd.info4
  have HI := Lib.hid hi
  have HZ0 := Lib.hid hz0
  have HZ1 := Lib.hid hz1
  have HZ2 := Lib.hid hz2
  clear hi hz0 hz1 hz2
  have hw1 := HK.out.win1
  have hw2 := HK.out.win64
  go_enter Tryd.func62, Tryd.ntmps62
  go_wp2_with (at_make; refine wpList_make_full _ rfl (.tmp 9) (.tmp 9) 87 rfl w.heap.size 4 i0 (.bool false) 1 Tryd.underlying87 HI.out HZ0.out HZ1.out .i64 .i64 ((ds.length : Int) + 1) ((ds.length : Int) + 1) (ds.length + 1) (by rfl) (by rfl) (by omega) (by omega) (by rw [HZ2.out]; omega) (by unfold maxLen; omega) (by simp) ?_; intro w1 hown1 hgr1; obtain ⟨HB1, HR1, HS1, q2, q3, q4⟩ := marked_start hown1 hgr1; clear hown1 hgr1)
  go_loopw [6] (fun i wr => MarkedRel w (w.heap.size + 1) c ds i wr) (fun i _ => ds.length + 1 - (intOf i).toNat)
  case atStart => exact ⟨c.win, Nat.le_refl _, .inr rfl, rfl, HR1.out, HB1.out, HS1.out, q2, q3, q4⟩
  case round =>
    obtain ⟨k, hk1, hk2, rfl, hrow, hb, hs, q2, q3, q4⟩ := hrel
    have HR := Lib.hid hrow
    have HB := Lib.hid hb
    have HS := Lib.hid hs
    clear hrow hb hs
    by_cases hlt : k ≤ ds.length
    · have hbr := HH.out.later HB.out
      obtain ⟨b, o, rfl, hc⟩ := hbr.some (by omega)
      have HBY := Lib.hid hbr
      clear hc hbr
      have hcell := HR.out.cell k hlt
      have hfree := HR.out.free k
      have HMK := Lib.hid (mk_at c ds k hk1 hlt)
      have g1 : (c.win : Int) ≤ (k : Int) := by omega
      have g2 : (k : Int) ≤ (ds.length : Int) := by omega
      have g3 : (k : Int) ≤ (cap : Int) := by omega
      rw [if_neg (Nat.lt_irrefl k)] at hcell
      go_wp2_with fail
      refine Kit.wp_region_quiet_tail 17 (by kernel_rfl) (by kernel_rfl) ?_
      simp only [List.take_succ_cons, List.take_zero, List.drop_succ_cons, List.drop_zero]
      repeat (first | go_big_quiet_step (fail) | (go_big_quiet_want; go_big_quiet_op; refine ⟨_, refZeros_sym _ _, ?_⟩; go_big_quiet_on))
      go_big_quiet_want
      go_big_quiet_op
      refine ⟨_, hash_sub c.seed b o (k - c.win) c.win _ _ ds (by omega) (by omega) _ HBY.out.drew, ?_⟩
      go_big_quiet_on
      repeat (first | go_big_quiet_step (fail) | (go_big_quiet_want; go_big_quiet_op; refine ⟨_, refZeros_sym _ _, ?_⟩; go_big_quiet_on))
      refine wpQuiet_nil ?_
      go_wp2_with fail
      go_roundw
      case rel =>
        rw [← HMK.out]
        refine ⟨k + 1, by omega, by omega, by go_num, (HR.out.set hlt rfl).drew, (HB.out.setCell (p := ⟨w.heap.size + 1, k, none⟩) (by show _ ≤ w.heap.size + 1; omega) _).drew, ?_, ?_, ?_, ?_⟩
        · simpa using HS.out
        · exact (World.cell?_setCell_other _ _ _ _ (ne_block (by omega))).trans q2
        · exact (World.cell?_setCell_other _ _ _ _ (ne_block (by omega))).trans q3
        · exact (World.cell?_setCell_other _ _ _ _ (ne_block (by omega))).trans q4
      case measure => simp [intOf]; omega
    · have HF := Lib.hid (HR.out.full (by omega))
      go_wp2_with fail
      go_ret
      exact ⟨_, by omega, rfl, HF.out, HB.out⟩

/-- What the inner loop knows: no position from j + 1 to p - 1 is marked, and p is. -/
def InnerB (c : Cut) (ds : List Nat) (p j : Nat) (bp : Bool) : Prop := bp = true ↔ (mk c (ds.take p) = true ∧ ∀ r, j < r → r < p → mk c (ds.take r) = false)
theorem InnerB.start (c : Cut) (ds : List Nat) (p : Nat) (hp : 1 ≤ p) : InnerB c ds p (p - 1) (mk c (ds.take p)) := ⟨fun h => ⟨h, fun r h1 h2 => by omega⟩, fun h => h.1⟩
theorem InnerB.stop (c : Cut) (ds : List Nat) (p j : Nat) (bp : Bool) (hj : 1 ≤ j) (hjp : j < p) (h : mk c (ds.take j) = true) (_ : InnerB c ds p j bp) : InnerB c ds p (j - 1) false :=
  ⟨fun e => (by cases e), fun hh => (by have := hh.2 j (by omega) hjp; rw [this] at h; cases h)⟩
theorem InnerB.pass (c : Cut) (ds : List Nat) (p j : Nat) (bp : Bool) (hj : 1 ≤ j) (h : mk c (ds.take j) = false) (hb : InnerB c ds p j bp) : InnerB c ds p (j - 1) bp :=
  ⟨fun hh => ⟨(hb.1 hh).1, fun r h1 h2 => by
    by_cases e : r = j
    · rw [e]; exact h
    · exact (hb.1 hh).2 r (by omega) h2⟩, fun hh => hb.2 ⟨hh.1, fun r h1 h2 => hh.2 r (by omega) h2⟩⟩
theorem InnerB.done (c : Cut) (ds : List Nat) (p j : Nat) (bp : Bool) (hp : 1 ≤ p) (hb : InnerB c ds p j bp) (hj : j < 1 ∨ j + c.mn ≤ p) (hjp : p ≤ j + c.mn) : bp = prim c ds p := by
  rw [Bool.eq_iff_iff, prim_iff c ds p hp]
  refine Iff.trans hb (and_congr_right fun _ => ⟨fun h q h1 h2 h3 => h q (by omega) h2, fun h r h1 h2 => h r (by omega) h2 (by omega)⟩)

def RefPRel (w : World) (N M : Nat) (c : Cut) (ds : List Nat) (v i : Value) (wr : World) : Prop :=
  ∃ k : Nat, k ≤ ds.length ∧ i = .int .i64 ((k : Int) + 1) ∧ MkRow wr M c ds (ds.length + 1) ∧ wr.cell? ⟨N, 0, none⟩ = some (.int .i64 c.mn) ∧ Below w.heap.size w wr ∧ wr.ownsRow (M + 1) 3 1 v (primTo c ds k).length (natV (primTo c ds k))

set_option maxRecDepth 100000 in
set_option maxHeartbeats 800000 in
theorem refPrimary_any (c : Cut) (hk : c.Ok) (a : Option Addr) (cap : Nat) (ds : List Nat) (hl : ds.length ≤ 1000000) (hcap : ds.length ≤ cap) (w : World) (h : BytesAt w a ds) :
    Calls Tryd.prog 44 #[.agg #[.int .i64 c.mn, .int .i64 c.mx, .int .i64 c.win, .int .i64 c.bits, .int .u64 (u c.seed)], .slice a ds.length cap] w fun e w' =>
      ∃ v, e = .returned v ∧ w'.ownsRow w.heap.size 3 1 v (primTo c ds ds.length).length (natV (primTo c ds ds.length)) ∧ Below w.heap.size w w' := by
  have HH := Lib.hid h
  have HK := Lib.hid hk
  clear h hk
  obtain ⟨i0, hi, hz0, hz1, hz2⟩ := info_parts Tryd.info3
  have HI := Lib.hid hi
  have HZ0 := Lib.hid hz0
  have HZ1 := Lib.hid hz1
  have HZ2 := Lib.hid hz2
  clear hi hz0 hz1 hz2
  go_enter Tryd.func44, Tryd.ntmps44
  go_wp2_with fail
  refine (marked_any c HK.out a cap ds hl hcap _ (HH.out.later ((Below.refl _ _).alloc (Nat.le_refl _) _))).mono ?_
  rintro e w1 ⟨M, hM, rfl, hrow, hb⟩
  have HB1 := Lib.hid (((Below.refl w.heap.size w).alloc (Nat.le_refl _) (.cells #[.int .i64 c.mn, .int .i64 c.mx, .int .i64 c.win, .int .i64 c.bits, .int .u64 (u c.seed)] 48)).trans (hb.mono (by simp)))
  have q0 : w1.cell? ⟨w.heap.size, 0, none⟩ = some (.int .i64 c.mn) := (hb.cell (p := ⟨w.heap.size, 0, none⟩) (by simp)).trans (by rw [cell_of_row _ _ _ _ _ _ (heap_alloc_new _ _)]; rfl)
  have HR1 := Lib.hid hrow
  have HM := Lib.hid (show w.heap.size + 1 ≤ M by simpa using hM)
  clear hb hrow hM
  go_wp2_with fail
  have HOWN0 := Lib.hid (ownsRow_base (World.ownsRow_made (base := w1.heap.size) (e := 3) (size := 1) w1 #[] 0 (Nat.le_refl _) (Nat.zero_le _) rfl) (show M + 1 ≤ w1.heap.size from by obtain ⟨cs, h1, _⟩ := HR1.out; exact (Array.getElem?_eq_some_iff.1 h1).1))
  have HB2 := Lib.hid (HB1.out.alloc HB1.out.size (.cells #[] 3))
  have HR2 := Lib.hid (HR1.out.later ((Below.refl _ w1).alloc (Nat.le_refl _) (.cells #[] 3)))
  have q0' : (w1.alloc (.cells #[] 3)).cell? ⟨w.heap.size, 0, none⟩ = some (.int .i64 c.mn) := (World.cell?_alloc_lt _ _ _ (World.block_lt_of_cell? _ _ q0)).trans q0
  have Q0 := Lib.hid q0'
  have hmn : (c.mn : Int) ≤ 32768 := by have := HK.out.mx; have := HK.out.most; omega
  have hmn1 : 1 ≤ c.mn := by have := HK.out.mn; have := HK.out.win1; omega
  clear q0 q0' HR1
  go_loopw [6, 7] (fun v i wr => RefPRel w w.heap.size M c ds v i wr) (fun _ i _ => ds.length + 1 - (intOf i).toNat)
  case atStart => exact ⟨0, by omega, rfl, HR2.out, Q0.out, HB2.out, HOWN0.out⟩
  case round =>
    obtain ⟨k, hk, rfl, hrow, hq, hb, hown⟩ := hrel
    have HR := Lib.hid hrow
    have HB := Lib.hid hb
    have HO := Lib.hid hown
    clear hrow hb hown
    obtain ⟨wo, rfl⟩ : ∃ wo : World, wo = wr := ⟨_, rfl⟩
    by_cases hlt : k < ds.length
    · have hcp : wo.cell? ⟨M, k + 1, none⟩ = some (.bool (mk c (ds.take (k + 1)))) := by have := HR.out.cell (k + 1) (by omega); rwa [if_pos (by omega)] at this
      have HS := Lib.hid (InnerB.start c ds (k + 1) (by omega))
      have g1 : (k : Int) + 1 ≤ (ds.length : Int) := by omega
      generalize mk c (ds.take (k + 1)) = m at hcp HS
      go_wp2_with fail
      go_loop [8, 9] (fun b q => ∃ (j : Nat) (bp : Bool), j ≤ k ∧ k + 1 ≤ j + c.mn ∧ q = .int .i64 j ∧ b = .bool bp ∧ Hid (InnerB c ds (k + 1) j bp)) (fun _ q => (intOf q).toNat)
      case atStart => exact ⟨k, m, Nat.le_refl _, by omega, rfl, rfl, HS.out⟩
      case round =>
        obtain ⟨j, bp, hj1, hj2, rfl, rfl, HJ⟩ := hrel
        by_cases hA : 1 ≤ j
        · by_cases hB : k + 1 < j + c.mn
          · have hcj : wo.cell? ⟨M, j, none⟩ = some (.bool (mk c (ds.take j))) := by have := HR.out.cell j (by omega); rwa [if_pos (by omega)] at this
            have g2 : (1 : Int) ≤ (j : Int) := by omega
            have g3 : (k : Int) + 1 - (c.mn : Int) < (j : Int) := by omega
            have g4 : ((j - 1 : Nat) : Int) = (j : Int) - 1 := by omega
            have HG4 := Lib.hid g4
            clear g4
            cases hm : mk c (ds.take j) with
            | true =>
              rw [hm] at hcj
              have HI2 := Lib.hid (HJ.out.stop c ds (k + 1) j bp hA (by omega) hm)
              clear hm
              go_wp2
              go_round
              case rel => exact ⟨j - 1, false, by omega, by omega, by rw [HG4.out], rfl, HI2.out⟩
              case measure => simp [intOf]; omega
            | false =>
              rw [hm] at hcj
              have HI2 := Lib.hid (HJ.out.pass c ds (k + 1) j bp hA hm)
              clear hm
              go_wp2
              go_round
              case rel => exact ⟨j - 1, bp, by omega, by omega, by rw [HG4.out], rfl, HI2.out⟩
              case measure => simp [intOf]; omega
          · have HD := Lib.hid (HJ.out.done c ds (k + 1) j bp (by omega) (.inr (by omega)) (by omega))
            have g2 : (1 : Int) ≤ (j : Int) := by omega
            have g3 : ¬ (k : Int) + 1 - (c.mn : Int) < (j : Int) := by omega
            have hlen := primTo_length c ds k
            have hszM : M < wo.heap.size := by obtain ⟨cs, h1, _⟩ := HR.out; exact (Array.getElem?_eq_some_iff.1 h1).1
            cases bp with
            | true =>
              have HP := Lib.hid (primTo_yes HD.out.symm)
              clear HD HS HJ
              go_wp2_with (at_builtin; refine wpList_append_own _ rfl _ _ 57 rfl (M + 1) 3 i0 (.int .i64 0) 1 8 Tryd.underlying57 HI.out HZ0.out HZ1.out HZ2.out rfl (by decide) _ _ _ rfl (HO.out.alloc _) ⟨wo.heap.size, 0, none⟩ 1 1 [.int .i64 ((k : Int) + 1)] rfl rfl (cell_one_new _ _ _) (by simp [Value.oneCell']) (by unfold maxLen; omega) (by omega) (by simp; omega) ?_; intro v' w4 hown4 hgr4 _)
              have HC4 : Hid (Chg (fun g _ => M + 1 ≤ g) wo w4) := (Chg.alloc1 wo _).trans (Chg.of_grown hgr4 (fun g _ e => (HO.out.lt g e).1))
              have HB4 := Lib.hid (HB.out.trans (HC4.out.below HB.out.size (fun g i hg hi => by have := HM.out; omega)))
              have HR4 := Lib.hid (HR.out.keep HC4.out (by omega))
              have hq4 := HC4.out.cell hq (by have := HM.out; omega)
              have HO4 := Lib.hid hown4
              clear hown4 hgr4
              go_wp2
              go_roundw
              case rel => exact ⟨k + 1, by omega, by go_num, HR4.out, hq4, HB4.out, by rw [HP.out, natV_snoc, List.length_append]; exact HO4.out⟩
              case measure => simp [intOf]; omega
            | false =>
              have HP := Lib.hid (primTo_no HD.out.symm)
              clear HD HS HJ
              go_wp2
              go_roundw
              case rel => exact ⟨k + 1, by omega, by go_num, HR.out, hq, HB.out, by rw [HP.out]; exact HO.out⟩
              case measure => simp [intOf]; omega
        · have HD := Lib.hid (HJ.out.done c ds (k + 1) j bp (by omega) (.inl (by omega)) (by omega))
          have g2 : ¬ (1 : Int) ≤ (j : Int) := by omega
          have hlen := primTo_length c ds k
          have hszM : M < wo.heap.size := by obtain ⟨cs, h1, _⟩ := HR.out; exact (Array.getElem?_eq_some_iff.1 h1).1
          cases bp with
          | true =>
            have HP := Lib.hid (primTo_yes HD.out.symm)
            clear HD HS HJ
            go_wp2_with (at_builtin; refine wpList_append_own _ rfl _ _ 57 rfl (M + 1) 3 i0 (.int .i64 0) 1 8 Tryd.underlying57 HI.out HZ0.out HZ1.out HZ2.out rfl (by decide) _ _ _ rfl (HO.out.alloc _) ⟨wo.heap.size, 0, none⟩ 1 1 [.int .i64 ((k : Int) + 1)] rfl rfl (cell_one_new _ _ _) (by simp [Value.oneCell']) (by unfold maxLen; omega) (by omega) (by simp; omega) ?_; intro v' w4 hown4 hgr4 _)
            have HC4 : Hid (Chg (fun g _ => M + 1 ≤ g) wo w4) := (Chg.alloc1 wo _).trans (Chg.of_grown hgr4 (fun g _ e => (HO.out.lt g e).1))
            have HB4 := Lib.hid (HB.out.trans (HC4.out.below HB.out.size (fun g i hg hi => by have := HM.out; omega)))
            have HR4 := Lib.hid (HR.out.keep HC4.out (by omega))
            have hq4 := HC4.out.cell hq (by have := HM.out; omega)
            have HO4 := Lib.hid hown4
            clear hown4 hgr4
            go_wp2
            go_roundw
            case rel => exact ⟨k + 1, by omega, by go_num, HR4.out, hq4, HB4.out, by rw [HP.out, natV_snoc, List.length_append]; exact HO4.out⟩
            case measure => simp [intOf]; omega
          | false =>
            have HP := Lib.hid (primTo_no HD.out.symm)
            clear HD HS HJ
            go_wp2
            go_roundw
            case rel => exact ⟨k + 1, by omega, by go_num, HR.out, hq, HB.out, by rw [HP.out]; exact HO.out⟩
            case measure => simp [intOf]; omega
    · have e : k = ds.length := by omega
      subst e
      go_wp2_with fail
      go_ret
      exact ⟨_, rfl, ownsRow_base HO.out (by have := HM.out; omega), HB.out⟩
end Go.Proofs.YtfnhcjcahcacnaaDoor
