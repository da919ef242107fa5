/- The contracts of chunker.Cuts and chunker.Split: loops over the iterator. -/
import Derived.Test.YtfnhcjcahcacnaaDoorEnds
namespace Go.Proofs.YtfnhcjcahcacnaaDoor
open Go.RowKit
open Roll (u)
open Kit (Chg)
open Chk

set_option maxHeartbeats 400000 in
theorem ends_any (mn mx win bits : Int) (s : BitVec 64) (a : Option Addr) (n m : Nat) (w : World) :
    Calls Tryd.prog 64 #[.agg #[.int .i64 mn, .int .i64 mx, .int .i64 win, .int .i64 bits, .int .u64 (u s)], .slice a n m] w fun e w' =>
      e = .returned (.func (.func 68) #[] #[.pointer (some ⟨w.heap.size, 0, none⟩), .pointer (some ⟨w.heap.size + 1, 0, none⟩)]) ∧ w' = (w.alloc (.cells #[.int .i64 mn, .int .i64 mx, .int .i64 win, .int .i64 bits, .int .u64 (u s)] 48)).alloc (.cells #[.slice a n m] 28) := by
  go_enter Tryd.func64, Tryd.ntmps64
  go_wp2_with fail
  go_ret
  exact ⟨rfl, rfl⟩

/-- Behind 'out = append(out, ..)': every other block is as it was. -/
theorem appended_other {W w1 : World} {B k : Nat} {row : Option Nat} {v' : Value} {tmp : Obj} (hgrow : (W.alloc tmp).grownBy w1 row) (hk : k < W.heap.size) (h1 : k ≠ B) (h2 : some k ≠ row) : (w1.setCell ⟨B, 0, none⟩ v').heap[k]? = W.heap[k]? := by
  rw [Below.heap_setCell _ _ _ _ h1, hgrow.block k (by simp; omega) h2, Below.heap_alloc _ _ _ hk]

/-- A block of another type is not the row of a slice. -/
theorem not_row_of {W : World} {base e size n k : Nat} {v : Value} {xs : List Value} {c : Array Value} {T : TypeId} {f : Nat × Nat} (hr : W.ownsRow base e size v n xs) (hk : W.heap[k]? = some (.cells c T f)) (hT : T ≠ e) : some k ≠ v.ownBlock := by
  rcases hr.2 with ⟨rfl, _⟩ | ⟨g, cap, cur, rfl, _, hgb, _⟩
  · simp [Value.ownBlock]
  · intro e'
    obtain rfl : k = g := by simpa [Value.ownBlock] using e'
    rw [hgb] at hk
    cases hk
    exact hT rfl
/-- What the iterator wants kept, behind an append. -/
theorem KpE.appended {W w4 : World} {n₀ Bx Nc Nd t e size n m : Nat} {v v' : Value} {xs ys : List Value} {tmp : Obj} (hv : Boxed W Bx t v) (hte : t ≠ e) (ht : t ≠ 81) (he : e ≠ 81) (hrow : W.ownsRow (Nd + 1) e size v n xs) (hn : n₀ ≤ W.heap.size) (hB : n₀ ≤ Bx)
    (hc : Bx < Nc) (hd : Nc < Nd) (hdd : Nd < W.heap.size) (hown' : w4.ownsRow (Nd + 1) e size v' m ys) (hgrow : (W.alloc tmp).grownBy w4 v.ownBlock) :
    KeepsFrom n₀ W (w4.setCell ⟨Bx, 0, none⟩ v') ∧ KpE n₀ Nc Nd W (w4.setCell ⟨Bx, 0, none⟩ v') ∧ Boxed (w4.setCell ⟨Bx, 0, none⟩ v') Bx t v' ∧ (w4.setCell ⟨Bx, 0, none⟩ v').ownsRow (Nd + 1) e size v' m ys := by
  obtain ⟨hv1, hv2, _, hk2, hb2⟩ := hv.appended hte (ownsRow_base hrow (by omega)) hn hB (ownsRow_base hown' (by omega)) hgrow
  refine ⟨hk2.from _, ⟨hb2, appended_other hgrow (by omega) (by omega) (fun e => by have := (hrow.lt _ e.symm).1; omega), appended_other hgrow (by omega) (by omega) (fun e => by have := (hrow.lt _ e.symm).1; omega), fun k c f hk => ?_⟩, hv2, hown'.kept (grownBy_setCell' w4 Bx v') (.inr (hv1.not_row hte hown').symm)⟩
  refine appended_other hgrow (Array.getElem?_eq_some_iff.1 hk).1 (fun e' => ?_) (not_row_of hrow hk (Ne.symm he))
  subst e'
  rw [show W.heap[k]? = _ from hv] at hk
  cases hk
  exact ht rfl
/-- The box holds a slice that owns what has come; the boxes of the iterator lie there. -/
def CutsI (n₀ Bx Nc Nd : Nat) (w : World) (oc od : Obj) (pre : List Nat) (W : World) : Prop :=
  (∃ v, Boxed W Bx 57 v ∧ W.ownsRow (Nd + 1) 3 1 v pre.length (natV pre)) ∧ Below n₀ w W ∧ W.heap[Nc]? = some oc ∧ W.heap[Nd]? = some od
theorem CutsI.own {n₀ Bx Nc Nd B : Nat} {w : World} {oc od : Obj} (hn : n₀ ≤ w.heap.size) (hB : n₀ ≤ B) (hx : Bx < B) (hc : Nc < B) (hd : Nd < B) : OwnT B 81 (CutsI n₀ Bx Nc Nd w oc od) := by
  rintro s X Y row ⟨⟨v, hv, hr⟩, hb, h1, h2⟩ hg hrow
  refine ⟨⟨v, hv.kept hg (fun e => by have := (hrow _ e.symm).1; omega), hr.kept hg ?_⟩, hb.grown hg (Nat.le_trans hn hb.size) (fun k e => by have := (hrow _ e).1; omega), (hg.block Nc (Array.getElem?_eq_some_iff.1 h1).1 (fun e => by have := (hrow _ e.symm).1; omega)).trans h1, (hg.block Nd (Array.getElem?_eq_some_iff.1 h2).1 (fun e => by have := (hrow _ e.symm).1; omega)).trans h2⟩
  rcases hr.2 with ⟨rfl, _⟩ | ⟨g, cap, cur, rfl, _, hgb, _⟩
  · exact .inl rfl
  · refine .inr fun e' => ?_
    obtain ⟨_, o, ho, hc⟩ := hrow g (by simpa [Value.ownBlock] using e'.symm)
    rw [hgb] at ho
    cases ho
    rcases hc with hc | ⟨c, f, hc⟩
    · cases hc
    · cases hc

attribute [local go_sem] Oper.semAt_some

set_option maxRecDepth 100000 in
set_option maxHeartbeats 1000000 in
theorem cuts_any (c : Cut) (hk : c.Ok) (a : Option Addr) (cap : Nat) (ds : List Nat) (hl : ds.length ≤ 1000000) (w : World) (h : BytesAt w a ds) (hT : TabAt 0 Lib.deBruijn64tab w) :
    Calls Tryd.prog 50 #[.agg #[.int .i64 c.mn, .int .i64 c.mx, .int .i64 c.win, .int .i64 c.bits, .int .u64 (u c.seed)], .slice a ds.length cap] w fun e w' =>
      ∃ v, e = .returned (.tuple #[v, .int .i64 0]) ∧ w'.ownsRow w.heap.size 3 1 v (cuts c ds).length (natV (cuts c ds)) ∧ Below w.heap.size w w' := by
  have HH := Lib.hid h
  have HT := Lib.hid hT
  have HK := Lib.hid hk
  clear h hT hk
  refine (callsIn_wide (n := 9)).1 (callsIn_of_wp_marks Tryd.func50 rfl trivial ?_ rfl)
  simp only [Tryd.ntmps50, List.size_toArray, List.length_cons, List.length_nil, Nat.reduceAdd, Nat.reduceSub, Array.replicate_succ, Array.replicate_zero, List.push_toArray, List.append_toArray, List.nil_append, List.cons_append]
  refine wpIn_wide.2 ?_
  go_wp2_with fail
  refine (check_ok1 c (valid_of HK.out) _ a ds.length cap (by omega) _ (by rw [cell_of_row _ _ _ _ _ _ (heap_alloc2_new _ _ _)]; rfl)).mono ?_
  rintro e w1 ⟨rfl, hb1⟩
  have HB1 := Lib.hid ((((Below.refl w.heap.size w).alloc (Nat.le_refl _) _).alloc (by simp) _).trans (hb1.mono (by simp only [World.size_alloc]; omega)))
  have hc : ∀ i, w1.cell? ⟨w.heap.size, i, none⟩ = (#[.int .i64 c.mn, .int .i64 c.mx, .int .i64 c.win, .int .i64 c.bits, .int .u64 (u c.seed)] : Array Value)[i]? := fun i =>
    (hb1.cell (p := ⟨w.heap.size, i, none⟩) (by simp only [World.size_alloc]; omega)).trans (by rw [cell_of_row _ _ _ _ _ _ (heap_alloc2_old _ _ _)])
  have HS1 := Lib.hid (show w.heap.size + 2 ≤ w1.heap.size by have := hb1.size; simpa using this)
  have hlt1 : w.heap.size < w1.heap.size := by have := HS1.out; omega
  have c0 := hc 0
  have c1 := hc 1
  have c2 := hc 2
  have c3 := hc 3
  have c4 := hc 4
  clear hb1 hc
  go_wp2_with fail
  refine (ends_any c.mn c.mx c.win c.bits c.seed a ds.length cap _).mono ?_
  rintro e w2 ⟨rfl, hw2⟩
  have HW2 := Lib.hid hw2
  clear hw2 c0 c1 c2 c3 c4
  go_wp2_with fail
  refine wp_over (fun V => Hid (V.heap.size = w1.heap.size + 3) ∧ Hid (Below w.heap.size w V) ∧ Hid (Boxed V w1.heap.size 57 (.slice none 0 0)) ∧ Hid (V.heap[w1.heap.size + 1]? = some (.cells #[.int .i64 c.mn, .int .i64 c.mx, .int .i64 c.win, .int .i64 c.bits, .int .u64 (u c.seed)] 48 (0, 0))) ∧ Hid (V.heap[w1.heap.size + 1 + 1]? = some (.cells #[.slice a ds.length cap] 28 (0, 0)))) ⟨?_, ?_, ?_, ?_, ?_⟩ ?_
  · show _ = _; rw [HW2.out]; simp
  · show Below _ _ _
    rw [HW2.out]
    exact ((HB1.out.alloc HB1.out.size _).alloc (by simp; omega) _).alloc (by simp; omega) _
  · show Boxed _ _ _ _
    rw [HW2.out]
    exact ((Boxed.new w1 57 _).alloc _).alloc _
  · show _ = _
    rw [HW2.out, Below.heap_alloc _ _ _ (by simp)]
    have := heap_alloc_new (w1.alloc (.cells #[.slice none 0 0] 57)) (.cells #[.int .i64 c.mn, .int .i64 c.mx, .int .i64 c.win, .int .i64 c.bits, .int .u64 (u c.seed)] 48)
    rwa [World.size_alloc] at this
  · show _ = _
    rw [HW2.out]
    have := heap_alloc_new ((w1.alloc (.cells #[.slice none 0 0] 57)).alloc (.cells #[.int .i64 c.mn, .int .i64 c.mx, .int .i64 c.win, .int .i64 c.bits, .int .u64 (u c.seed)] 48)) (.cells #[.slice a ds.length cap] 28)
    rwa [World.size_alloc, World.size_alloc] at this
  rintro V ⟨HS, HB, HX, HC, HD⟩
  clear HW2
  generalize hN : w1.heap.size = N at *
  have HN := Lib.hid hN
  have HwN : Hid (w.heap.size < N) := hlt1
  clear hN hlt1
  obtain ⟨i0, hi, hz0, hz1, hz2⟩ := info_parts Tryd.info3
  have HI := Lib.hid hi
  have HZ0 := Lib.hid hz0
  have HZ1 := Lib.hid hz1
  have HZ2 := Lib.hid hz2
  clear hi hz0 hz1 hz2
  refine (wpIn_wide (n := 9)).1 ?_
  refine wpIn_rangeFunc_cells 81 (gf := 68) (lb := #[.pointer (some ⟨N + 1, 0, none⟩), .pointer (some ⟨N + 1 + 1, 0, none⟩)]) rfl (enters_of Tryd.func68 (by kernel_rfl) rfl)
    (encs := fun x : Nat => #[.int .i64 (x : Int)]) (Kp := KpE w.heap.size (N + 1) (N + 1 + 1)) (R := fun xs => xs = cuts c ds) (G := NextOk ds) ?seq KpE.trans
    (KpE.put (by have := HS.out; have := HwN.out; omega) (by have := HS.out; omega) (by have := HS.out; omega)) (fun _ => rfl)
    (CutsI w.heap.size N (N + 1) (N + 1 + 1) w (.cells #[.int .i64 c.mn, .int .i64 c.mx, .int .i64 c.win, .int .i64 c.bits, .int .u64 (u c.seed)] 48 (0, 0)) (.cells #[.slice a ds.length cap] 28 (0, 0)))
    (CutsI.own (Nat.le_refl _) (by have := HS.out; have := HwN.out; omega) (by have := HS.out; omega) (by have := HS.out; omega) (by have := HS.out; omega))
    ⟨⟨_, HX.out, World.ownsRow_nil _ _ _ _⟩, HB.out, HC.out, HD.out⟩ (fun x => { tmps := #[Value.agg #[Value.int .i64 c.mn, Value.int .i64 c.mx, Value.int .i64 c.win, Value.int .i64 c.bits, Value.int .u64 (u c.seed)], Value.slice a ds.length cap, Value.pointer (some ⟨w.heap.size, 0, none⟩), undef, Value.slice none 0 0, Value.int .i64 0, Value.int .i64 0, Value.pointer (some ⟨N, 0, none⟩), Value.int .i64 (x : Int), Value.agg #[Value.int .i64 c.mn, Value.int .i64 c.mx, Value.int .i64 c.win, Value.int .i64 c.bits, Value.int .u64 (u c.seed)], Value.slice a ds.length cap, Value.slice (some ⟨w.heap.size + 1, 0, none⟩) 1 1, Value.int .i64 0, Value.int .i64 0, Value.bool false, undef, Value.agg #[Value.int .i64 c.mn, Value.int .i64 c.mx, Value.int .i64 c.win, Value.int .i64 c.bits, Value.int .u64 (u c.seed)], Value.slice a ds.length cap, Value.func (Fn.func 68) #[] #[.pointer (some ⟨N + 1, 0, none⟩), .pointer (some ⟨N + 1 + 1, 0, none⟩)], Value.int .i64 (x : Int), undef, undef, undef, undef, undef], defers := [] }) ?assign ?body ?done
  case seq =>
    intro l J W hb hJ hY h0
    have hlt1 : N + 1 < V.heap.size := by have := HS.out; omega
    have hlt2 : N + 1 + 1 < V.heap.size := by have := HS.out; omega
    refine (ends1 _ _ c HK.out a cap ds hl w.heap.size (N + 1) (N + 1 + 1) l J W hJ hY h0 ((hb.block _ hlt1).trans HC.out) ((hb.block _ hlt2).trans HD.out) ?_ ?_ (Nat.le_trans HB.out.size hb.size)).mono ?_
    · intro W' hW'
      exact HH.out.later ((HB.out.trans (hb.mono HB.out.size)).trans hW')
    · intro W' hW'
      exact tabAt_below HT.out ((HB.out.trans (hb.mono HB.out.size)).trans hW') (tabAt_size HT.out)
    · rintro e W' ⟨he, hj⟩
      exact ⟨he, _, rfl, hj⟩
  case assign =>
    intro l x W K hK
    gi_wp2
    exact hK
  case body =>
    rintro l pre x W ⟨⟨v, hv, hrow⟩, hB, hC, hD⟩ hlt
    have hc := hv.cell
    have hV := HB.out.size
    have hlen := hlt.2.2
    clear hlt
    have hD2 : N + 1 + 1 + 1 ≤ W.heap.size := (Array.getElem?_eq_some_iff.1 hD).1
    have HC' := Lib.hid hC
    have HD' := Lib.hid hD
    clear hC hD
    gi_wp2_with (gi_at_builtin; refine wpListIn_append_own _ rfl _ _ 57 rfl (N + 1 + 1 + 1) 3 i0 (.int .i64 0) 1 8 Tryd.underlying57 HI.out HZ0.out HZ1.out HZ2.out rfl (by decide) _ _ _ rfl (hrow.alloc _) ⟨W.heap.size, 0, none⟩ 1 1 [.int .i64 (x : Int)] rfl rfl (cell_one_new _ _ _) (by simp [Value.oneCell']) (by unfold maxLen; omega) (by omega) (by simp; omega) ?_; intro v' w4 hown' hgrow _; obtain ⟨g', cap', rfl⟩ := ownsRow_succ hown'; have hv1 : Boxed w4 N 57 v := (hv.alloc _).kept hgrow (hv.not_row (by decide) hrow); have hc1 := hv1.cell; have hf1 := hv1.frozen)
    obtain ⟨k1, k2, k3, k4⟩ := KpE.appended (n₀ := w.heap.size) (Nc := N + 1) hv (by decide) (by decide) (by decide) hrow hB.size (by have := HwN.out; omega) (by omega) (by omega) (by omega) hown' hgrow
    refine ⟨⟨k1.size, fun k o hk => k1.same k o (by omega)⟩, k2, ⟨_, k3, ?_⟩, hB.trans k2.below, k2.c.trans HC'.out, k2.d.trans HD'.out⟩
    have e : natV (pre ++ [x]) = natV pre ++ [.int .i64 (x : Int)] := by simp [natV]
    rw [e, List.length_append]
    exact k4
  case done =>
    rintro D ys W hD rfl ⟨⟨v, hv, hrow⟩, hB, hC, hD⟩ hK
    have hc := hv.cell
    have HR := Lib.hid hrow
    have HB3 := Lib.hid hB
    have HK3 := Lib.hid hK
    clear hrow hB hC hD hK
    go_wp2_with fail
    refine ⟨by simp, .inl ⟨_, _, rfl, run_takeDeferred HK3.out, ?_⟩⟩
    exact ⟨_, results_tmp2 rfl _ _ _, _, rfl, ownsRow_putObj (ownsRow_base HR.out (by have := HwN.out; omega)) _ HK3.out rfl, HB3.out.trans (belowK_b (w := w) (Nat.le_refl _) W D _ _ (by have := HB.out.size; omega) HK3.out rfl rfl)⟩
end Go.Proofs.YtfnhcjcahcacnaaDoor
