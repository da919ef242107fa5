/- Texts KSplit of the proof, each as a section; no premises beyond those that each theorem states. -/
import Derived.WalkSpells
import Derived.Test.YtmcbnhkcjhlbaaaGreatDoorP09
set_option linter.unusedVariables false
set_option linter.unusedSimpArgs false
namespace Go.Proofs.YtmcbnhkcjhlbaaaGreatDoor.Ck
open Go.RowKit
open Roll (u)
open Go.Proofs.YtmcbnhkcjhlbaaaGreatDoor.Kit (Chg)
open Chk

set_option maxRecDepth 100000 in
set_option maxHeartbeats 400000 in
theorem clone_any (b o n cap : Nat) (bs : List Nat) (hn : bs.length = n) (h1 : 1 ≤ n) (hl : n ≤ 1000000) (w : World) (h : BytesAt w (some ⟨b, o, none⟩) bs) :
    Calls Tryz.prog 35 #[.slice (some ⟨b, o, none⟩) n cap] w fun e w' => ∃ g cap', e = .returned (.slice (some ⟨g, 0, none⟩) n cap') ∧ w.heap.size ≤ g ∧ (∃ cur f, w'.heap[g]? = some (.cells cur 5 f)) ∧ BytesAt w' (some ⟨g, 0, none⟩) bs ∧ n ≤ cap' ∧ Below w.heap.size w w' := by
  have HH := Lib.hid h
  have HN := Lib.hid hn
  clear h hn
  obtain ⟨i0, hi, hz0, hz1, hz2⟩ := info_parts Tryz.info5
  have HI := Lib.hid hi
  have HZ0 := Lib.hid hz0
  have HZ1 := Lib.hid hz1
  have HZ2 := Lib.hid hz2
  clear hi hz0 hz1 hz2
  have hkn := fun (w : World) => Lib.run_eql_slice_nil (P := Tryz.prog) w 52 5 (some ⟨b, o, none⟩) n cap 0 0 Tryz.underlying52
  have OWN0 := Lib.hid (World.ownsRow_made (base := w.heap.size) (e := 5) (size := 1) w #[] 0 (Nat.le_refl _) (Nat.zero_le _) rfl)
  have SRC0 : Hid (∀ j v, (bvals bs)[j]? = some v → (w.alloc (.cells #[] 5)).cell? ((⟨b, o, none⟩ : Addr).add j) = some v) := by
    have h2 := HH.out.later ((Below.refl w.heap.size w).alloc (Nat.le_refl _) (.cells #[] 5))
    obtain ⟨b', o', e, hc⟩ := h2.some (by have := HN.out; omega)
    cases e
    intro j v hv
    have hj : j < bs.length := by have := (List.getElem?_eq_some_iff.1 hv).1; rwa [bvals_length] at this
    rw [add_none, hc j hj, ← hv]
    simp [bvals, hj]
  have HLN : Hid ((bvals bs).length = n * 1) := by show _ = _; rw [bvals_length, HN.out, Nat.mul_one]
  go_enter Tryz.func35, Tryz.ntmps35
  go_wp2_with (at_builtin; refine wpList_append_own _ rfl _ _ 52 rfl w.heap.size 5 i0 (.int .u8 0) 1 1 Tryz.underlying52 HI.out HZ0.out HZ1.out HZ2.out rfl (by decide) _ 0 [] rfl OWN0.out ⟨b, o, none⟩ n cap (bvals bs) rfl HLN.out SRC0.out (bvals_one bs) (by unfold maxLen; omega) (by omega) (by simp) ?_; intro v' w4 hown' hgrow _)
  go_ret
  have hown2 : w4.ownsRow w.heap.size 5 1 v' n (bvals bs) := by rw [Nat.zero_add, List.nil_append] at hown'; exact hown'
  obtain ⟨hlen, a, cap', hv, _, _, hb, hnil⟩ := bytes_of_own hown2 HH.out.2.1 HH.out.2.2
  have hlt := hown2.lt
  obtain ⟨b', o', e, hc⟩ := hb.some (by omega)
  rcases hown2.2 with ⟨_, h0⟩ | ⟨g, cap2, cur, hv2, hg, hgb, hnc, _⟩
  · omega
  · rw [hv2] at hv
    cases hv
    exact ⟨g, _, by rw [hv2]; rfl, hg, ⟨_, _, hgb⟩, hb, hnc, ((Chg.alloc1 w _).trans (Chg.of_grown (M := fun k _ => w.heap.size ≤ k) hgrow (fun k _ e => by simp [Act.eval, Value.ownBlock] at e; omega))).below (Nat.le_refl _) (fun k i hk h => by omega)⟩

def ChL (w : World) (xs : List (Option Addr × Nat × Nat)) (css : List (List Nat)) : Prop :=
  xs.length = css.length ∧ ∀ i, i < css.length → ∃ g cap, xs[i]? = some (some ⟨g, 0, none⟩, (css.getD i []).length, cap) ∧ BytesAt w (some ⟨g, 0, none⟩) (css.getD i []) ∧ (css.getD i []).length ≤ cap ∧ ∃ cur f, w.heap[g]? = some (.cells cur 5 f)
theorem bytesAt_same {w w' : World} {g o : Nat} {bs : List Nat} (h : BytesAt w (some ⟨g, o, none⟩) bs) (hg : w'.heap[g]? = w.heap[g]?) : BytesAt w' (some ⟨g, o, none⟩) bs := by
  refine ⟨?_, h.2⟩
  rcases h.1 with e | ⟨b, o', e, hc⟩
  · exact .inl e
  · cases e
    exact .inr ⟨_, _, rfl, fun i hi => (World.cell?_of_block (a := ⟨g, o + i, none⟩) hg).trans (hc i hi)⟩
theorem ChL.keep {w w' : World} {xs : List (Option Addr × Nat × Nat)} {css : List (List Nat)} (h : ChL w xs css) (hk : ∀ (g : Nat) (cur : Array Value) (f : Nat × Nat), w.heap[g]? = some (.cells cur 5 f) → w'.heap[g]? = w.heap[g]?) : ChL w' xs css :=
  ⟨h.1, fun i hi => by
    obtain ⟨g, cap, h1, h2, h3, cur, f, h4⟩ := h.2 i hi
    exact ⟨g, cap, h1, bytesAt_same h2 (hk g cur f h4), h3, cur, f, (hk g cur f h4).trans h4⟩⟩
theorem ChL.nil (w : World) : ChL w [] [] := ⟨rfl, fun i hi => by simp at hi⟩
theorem ChL.snoc {w : World} {xs : List (Option Addr × Nat × Nat)} {css : List (List Nat)} {g cap : Nat} {bs : List Nat} (h : ChL w xs css) (hb : BytesAt w (some ⟨g, 0, none⟩) bs) (hc : bs.length ≤ cap) (ht : ∃ cur f, w.heap[g]? = some (.cells cur 5 f)) :
    ChL w (xs ++ [(some ⟨g, 0, none⟩, bs.length, cap)]) (css ++ [bs]) := by
  refine ⟨by simp [h.1], fun i hi => ?_⟩
  rw [List.length_append, List.length_singleton] at hi
  by_cases e : i < css.length
  · obtain ⟨g', cap', h1, h2, h3, h4⟩ := h.2 i e
    have e1 : (css ++ [bs]).getD i [] = css.getD i [] := by rw [List.getD_eq_getElem?_getD, List.getElem?_append_left e, ← List.getD_eq_getElem?_getD]
    rw [e1]
    exact ⟨g', cap', by rw [List.getElem?_append_left (by rw [h.1]; exact e)]; exact h1, h2, h3, h4⟩
  · have e2 : i = css.length := by omega
    have e1 : (css ++ [bs]).getD i [] = bs := by rw [e2, List.getD_eq_getElem?_getD, List.getElem?_append_right (Nat.le_refl _)]; simp
    rw [e1]
    exact ⟨g, cap, by rw [e2, ← h.1, List.getElem?_append_right (Nat.le_refl _)]; simp, hb, hc, ht⟩

structure SplitI (n₀ Bx Bs Nc Nd Na : Nat) (w : World) (dat : Value) (oc od : Obj) (ds : List Nat) (pre : List Nat) (W : World) : Prop where
  row : ∃ v xs, Boxed W Bx 32 v ∧ W.ownsRow (Nd + 1) 52 1 v pre.length (xs.map slV) ∧ ChL W xs (pieces ds 0 pre)
  start : Boxed W Bs 3 (.int .i64 (((0 :: pre).getLast (by simp) : Nat) : Int))
  below : Below n₀ w W
  c : W.heap[Nc]? = some oc
  d : W.heap[Nd]? = some od
  dat : Boxed W Na 52 dat
theorem pieces_length (ds : List Nat) : ∀ (ps : List Nat) (a : Nat), (pieces ds a ps).length = ps.length
  | [], _ => rfl
  | p :: ps, a => by rw [pieces, List.length_cons, List.length_cons, pieces_length ds ps p]
theorem SplitI.own {n₀ Bx Bs Nc Nd Na B : Nat} {w : World} {dat : Value} {oc od : Obj} {ds : List Nat} (hn : n₀ ≤ w.heap.size) (hB : n₀ ≤ B) (hx : Bx < B) (hs : Bs < B) (hc : Nc < B) (hd : Nd < B) (ha : Na < B) : OwnT B 166 (SplitI n₀ Bx Bs Nc Nd Na w dat oc od ds) := by
  rintro s X Y row ⟨⟨v, xs, hv, hr, hch⟩, hst, hb, h1, h2, h3⟩ hg hrow
  refine ⟨⟨v, xs, hv.kept hg (fun e => by have := (hrow _ e.symm).1; omega), hr.kept hg ?_, hch.keep fun g cur f hh => hg.block g (Array.getElem?_eq_some_iff.1 hh).1 (fun e => ?_)⟩, hst.kept hg (fun e => by have := (hrow _ e.symm).1; omega), hb.grown hg (Nat.le_trans hn hb.size) (fun k e => by have := (hrow _ e).1; omega),
    (hg.block Nc (Array.getElem?_eq_some_iff.1 h1).1 (fun e => by have := (hrow _ e.symm).1; omega)).trans h1, (hg.block Nd (Array.getElem?_eq_some_iff.1 h2).1 (fun e => by have := (hrow _ e.symm).1; omega)).trans h2, h3.kept hg (fun e => by have := (hrow _ e.symm).1; omega)⟩
  · rcases hr.2 with ⟨rfl, _⟩ | ⟨g, cap, cur, rfl, _, hgb, _⟩
    · exact .inl rfl
    · refine .inr fun e' => ?_
      obtain ⟨_, o, ho, hc⟩ := hrow g (by simpa [Value.ownBlock] using e'.symm)
      rw [hgb] at ho
      cases ho
      rcases hc with hc | ⟨c, f, hc⟩ <;> cases hc
  · obtain ⟨_, o, ho, hc⟩ := hrow g e.symm
    rw [hh] at ho
    cases ho
    rcases hc with hc | ⟨c, f, hc⟩ <;> cases hc

theorem split_step (ds pre : List Nat) (x : Nat) : pieces ds 0 (pre ++ [x]) = pieces ds 0 pre ++ [(ds.take x).drop ((0 :: pre).getLast (by simp))] := pieces_snoc ds x pre 0

theorem Tryz.info52 : (Tryz.prog.info? 52).map (fun i => (i.zero, i.size, i.bytes)) = some (some (.slice none 0 0), 1, 24) := by kernel_rfl

attribute [local go_sem] Oper.semAt_some

theorem grown_undrew {w w' : World} {row : Option Nat} (h : w.drew.grownBy w' row) : w.grownBy w' row := ⟨h.os, h.tape, h.output, h.size, h.block⟩
theorem ownsRow_new {w w' : World} {base e size n : Nat} {v : Value} {xs : List Value} (h : w.ownsRow base e size v n xs) (hg : w.grownBy w' none) : w'.ownsRow base e size v n xs := by
  refine h.kept hg ?_
  rcases h.2 with ⟨rfl, _⟩ | ⟨g, cap, cur, rfl, _⟩
  · exact .inl rfl
  · exact .inr (fun e => by simp [Value.ownBlock] at e)
theorem alloc3 (w : World) (A B C : Obj) : (((w.alloc A).alloc B).alloc C).heap[w.heap.size]? = some A ∧ (((w.alloc A).alloc B).alloc C).heap[w.heap.size + 1]? = some B ∧ (((w.alloc A).alloc B).alloc C).heap[w.heap.size + 1 + 1]? = some C := by
  refine ⟨(Below.heap_alloc _ _ _ (by simp; omega)).trans (heap_alloc2_old _ _ _), (Below.heap_alloc _ _ _ (by simp)).trans (heap_alloc2_new _ _ _), ?_⟩
  have := heap_alloc_new ((w.alloc A).alloc B) C
  rwa [World.size_alloc, World.size_alloc] at this

theorem KpE.new {W w3 : World} {n₀ Nc Nd : Nat} (h : W.grownBy w3 none) (hn : n₀ ≤ W.heap.size) (hc : Nc < W.heap.size) (hd : Nd < W.heap.size) : KpE n₀ Nc Nd W w3 :=
  ⟨(Below.refl n₀ W).grown h hn (fun k e => by cases e), h.block _ hc (by simp), h.block _ hd (by simp), fun k c f hk => h.block _ (Array.getElem?_eq_some_iff.1 hk).1 (by simp)⟩
theorem KpE.setBox {W : World} {n₀ Nc Nd B t : Nat} {v : Value} (v' : Value) (h : Boxed W B t v) (ht : t ≠ 166) (hn : n₀ ≤ B) (hc : Nc ≠ B) (hd : Nd ≠ B) : KpE n₀ Nc Nd W (W.setCell ⟨B, 0, none⟩ v') :=
  ⟨(Below.refl n₀ W).setCell (p := ⟨B, 0, none⟩) hn _, Below.heap_setCell _ _ _ _ hc, Below.heap_setCell _ _ _ _ hd, fun k c f hk => Below.heap_setCell _ _ _ _ (by rintro rfl; rw [show W.heap[k]? = _ from h] at hk; cases hk; exact ht rfl)⟩

set_option maxRecDepth 100000 in
set_option maxHeartbeats 1000000 in
theorem split_any (c : Cut) (hk : c.Ok) (a : Option Addr) (cap : Nat) (ds : List Nat) (hl : ds.length ≤ 100000) (hcap : ds.length ≤ cap) (w : World) (h : BytesAt w a ds) (hT : TabAt 4 Lib.deBruijn64tab w) :
    Calls Tryz.prog 13 #[.agg #[.int .i64 c.mn, .int .i64 c.mx, .int .i64 c.win, .int .i64 c.bits, .int .u64 (u c.seed)], .slice a ds.length cap] w fun e w' =>
      ∃ v xs, e = .returned (.tuple #[v, .int .i64 0]) ∧ w'.ownsRow w.heap.size 52 1 v (cuts c ds).length (xs.map slV) ∧ ChL w' xs (chunks c ds) ∧ Below w.heap.size w w' := by
  have HH := Lib.hid h
  have HT := Lib.hid hT
  have HK := Lib.hid hk
  clear h hT hk
  refine (callsIn_wide (n := 9)).1 (callsIn_of_wp_marks Tryz.func13 rfl trivial ?_ rfl)
  simp only [Tryz.ntmps13, List.size_toArray, List.length_cons, List.length_nil, Nat.reduceAdd, Nat.reduceSub, Array.replicate_succ, Array.replicate_zero, List.push_toArray, List.append_toArray, List.nil_append, List.cons_append]
  refine wpIn_wide.2 ?_
  go_wp2_with fail
  obtain ⟨a1, a2, a3⟩ := alloc3 w (.cells #[.int .i64 c.mn, .int .i64 c.mx, .int .i64 c.win, .int .i64 c.bits, .int .u64 (u c.seed)] 42) (.cells #[.slice a ds.length cap] 52) (.cells #[.slice a ds.length cap] 52)
  refine (check_ok1 c (valid_of HK.out) _ a ds.length cap (by omega) _ (by rw [cell_of_row _ _ _ _ _ _ a3]; rfl)).mono ?_
  rintro e w1 ⟨rfl, hb1⟩
  have HB1 := Lib.hid (((((Below.refl w.heap.size w).alloc (Nat.le_refl _) (.cells #[.int .i64 c.mn, .int .i64 c.mx, .int .i64 c.win, .int .i64 c.bits, .int .u64 (u c.seed)] 42)).alloc (by simp) (.cells #[.slice a ds.length cap] 52)).alloc (by simp; omega) (.cells #[.slice a ds.length cap] 52)).trans (hb1.mono (by simp only [World.size_alloc]; omega)))
  have hc1 := (hb1.block w.heap.size (by simp only [World.size_alloc]; omega)).trans a1
  have hd1 : Boxed w1 (w.heap.size + 1) 52 (.slice a ds.length cap) := (hb1.block (w.heap.size + 1) (by simp only [World.size_alloc]; omega)).trans a2
  have hlt1 : w.heap.size + 2 < w1.heap.size := by have := hb1.size; simp only [World.size_alloc] at this; omega
  have hc : ∀ i, w1.cell? ⟨w.heap.size, i, none⟩ = (#[.int .i64 c.mn, .int .i64 c.mx, .int .i64 c.win, .int .i64 c.bits, .int .u64 (u c.seed)] : Array Value)[i]? := fun i => cell_of_row _ _ _ _ _ _ hc1
  have c0 := hc 0
  have c1 := hc 1
  have c2 := hc 2
  have c3 := hc 3
  have c4 := hc 4
  have d0 := hd1.cell
  have HD1 := Lib.hid hd1
  have g0 : w.heap.size < w1.heap.size := by omega
  have g1 : w.heap.size + 1 < w1.heap.size := by omega
  clear hb1 hc hc1 hd1 a1 a2 a3
  go_wp2_with fail
  refine (ends_any c.mn c.mx c.win c.bits c.seed a ds.length cap _).mono ?_
  rintro e w2 ⟨rfl, hw2⟩
  have HW2 := Lib.hid hw2
  clear hw2 c0 c1 c2 c3 c4 d0
  go_wp2_with fail
  refine wp_over (fun V => Hid (V.heap.size = w1.heap.size + 4) ∧ Hid (Below w.heap.size w V) ∧ Hid (Boxed V w1.heap.size 32 (.slice none 0 0)) ∧ Hid (Boxed V (w1.heap.size + 1) 3 (.int .i64 0)) ∧ Hid (V.heap[w1.heap.size + 1 + 1]? = some (.cells #[.int .i64 c.mn, .int .i64 c.mx, .int .i64 c.win, .int .i64 c.bits, .int .u64 (u c.seed)] 42 (0, 0))) ∧ Hid (V.heap[w1.heap.size + 1 + 1 + 1]? = some (.cells #[.slice a ds.length cap] 52 (0, 0))) ∧ Hid (Boxed V (w.heap.size + 1) 52 (.slice a ds.length cap))) ⟨?_, ?_, ?_, ?_, ?_, ?_, ?_⟩ ?_
  · show _ = _; rw [HW2.out]; simp
  · show Below _ _ _
    rw [HW2.out]
    exact (((HB1.out.alloc HB1.out.size _).alloc (by simp; omega) _).alloc (by simp; omega) _).alloc (by simp; omega) _
  · show Boxed _ _ _ _
    rw [HW2.out]
    exact (((Boxed.new w1 32 _).alloc _).alloc _).alloc _
  · show Boxed _ _ _ _
    rw [HW2.out]
    have := Boxed.new (w1.alloc (.cells #[.slice none 0 0] 32)) 3 (.int .i64 0)
    rw [World.size_alloc] at this
    exact (this.alloc _).alloc _
  · show _ = _
    rw [HW2.out, Below.heap_alloc _ _ _ (by simp)]
    have := heap_alloc_new ((w1.alloc (.cells #[.slice none 0 0] 32)).alloc (.cells #[.int .i64 0] 3)) (.cells #[.int .i64 c.mn, .int .i64 c.mx, .int .i64 c.win, .int .i64 c.bits, .int .u64 (u c.seed)] 42)
    rwa [World.size_alloc, World.size_alloc] at this
  · show _ = _
    rw [HW2.out]
    have := heap_alloc_new (((w1.alloc (.cells #[.slice none 0 0] 32)).alloc (.cells #[.int .i64 0] 3)).alloc (.cells #[.int .i64 c.mn, .int .i64 c.mx, .int .i64 c.win, .int .i64 c.bits, .int .u64 (u c.seed)] 42)) (.cells #[.slice a ds.length cap] 52)
    rwa [World.size_alloc, World.size_alloc, World.size_alloc] at this
  · show Boxed _ _ _ _
    rw [HW2.out]
    exact (((HD1.out.alloc _).alloc _).alloc _).alloc _
  rintro V ⟨HS, HB, HX, HX2, HC, HD, HDA⟩
  clear HW2 g0 g1
  generalize hN : w1.heap.size = N at *
  have HN := Lib.hid hN
  have HwN : Hid (w.heap.size + 2 < N) := hlt1
  clear hN hlt1
  obtain ⟨i0, hi, hz0, hz1, hz2⟩ := info_parts Tryz.info52
  have HI := Lib.hid hi
  have HZ0 := Lib.hid hz0
  have HZ1 := Lib.hid hz1
  have HZ2 := Lib.hid hz2
  clear hi hz0 hz1 hz2
  refine (wpIn_wide (n := 9)).1 ?_
  refine wpIn_rangeFunc_cells 166 (gf := 76) (lb := #[.pointer (some ⟨N + 1 + 1, 0, none⟩), .pointer (some ⟨N + 1 + 1 + 1, 0, none⟩)]) rfl (enters_of Tryz.func76 (by kernel_rfl) rfl)
    (encs := fun x : Nat => #[.int .i64 (x : Int)]) (Kp := KpE w.heap.size (N + 1 + 1) (N + 1 + 1 + 1)) (R := fun xs => xs = cuts c ds) (G := NextOk ds) ?seq KpE.trans
    (KpE.put (by have := HS.out; have := HwN.out; omega) (by have := HS.out; omega) (by have := HS.out; omega)) (fun _ => rfl)
    (SplitI w.heap.size N (N + 1) (N + 1 + 1) (N + 1 + 1 + 1) (w.heap.size + 1) w (.slice a ds.length cap) (.cells #[.int .i64 c.mn, .int .i64 c.mx, .int .i64 c.win, .int .i64 c.bits, .int .u64 (u c.seed)] 42 (0, 0)) (.cells #[.slice a ds.length cap] 52 (0, 0)) ds)
    (SplitI.own (Nat.le_refl _) (by have := HS.out; have := HwN.out; omega) (by have := HS.out; omega) (by have := HS.out; omega) (by have := HS.out; omega) (by have := HS.out; omega) (by have := HS.out; have := HwN.out; omega))
    ⟨⟨_, [], HX.out, World.ownsRow_nil _ _ _ _, ChL.nil _⟩, HX2.out, HB.out, HC.out, HD.out, HDA.out⟩ (fun x => { tmps := #[Value.agg #[Value.int .i64 c.mn, Value.int .i64 c.mx, Value.int .i64 c.win, Value.int .i64 c.bits, Value.int .u64 (u c.seed)], Value.slice a ds.length cap, Value.pointer (some ⟨w.heap.size, 0, none⟩), Value.pointer (some ⟨w.heap.size + 1, 0, none⟩), Value.slice none 0 0, Value.int .i64 0, Value.int .i64 0, Value.pointer (some ⟨N, 0, none⟩), Value.pointer (some ⟨N + 1, 0, none⟩), Value.int .i64 (x : Int), Value.agg #[Value.int .i64 c.mn, Value.int .i64 c.mx, Value.int .i64 c.win, Value.int .i64 c.bits, Value.int .u64 (u c.seed)], Value.slice a ds.length cap, Value.slice (some ⟨w.heap.size + 1 + 1, 0, none⟩) 1 1, Value.int .i64 0, Value.int .i64 0, Value.bool false, undef, Value.agg #[Value.int .i64 c.mn, Value.int .i64 c.mx, Value.int .i64 c.win, Value.int .i64 c.bits, Value.int .u64 (u c.seed)], Value.slice a ds.length cap, Value.func (Fn.func 76) #[] #[.pointer (some ⟨N + 1 + 1, 0, none⟩), .pointer (some ⟨N + 1 + 1 + 1, 0, none⟩)], Value.int .i64 (x : Int), undef, undef, undef, undef, undef, undef, undef, undef, undef, undef], defers := [] }) ?assign ?body ?done
  case seq =>
    intro l J W hb hJ hY h0
    have hlt1 : N + 1 + 1 < V.heap.size := by have := HS.out; omega
    have hlt2 : N + 1 + 1 + 1 < V.heap.size := by have := HS.out; omega
    refine (ends1 _ _ c HK.out a cap ds (by omega) w.heap.size (N + 1 + 1) (N + 1 + 1 + 1) l J W hJ hY h0 ((hb.block _ hlt1).trans HC.out) ((hb.block _ hlt2).trans HD.out) ?_ ?_ (Nat.le_trans HB.out.size hb.size)).mono ?_
    · intro W' hW'
      exact HH.out.later ((HB.out.trans (hb.mono HB.out.size)).trans hW')
    · intro W' hW'
      exact tabAt_below HT.out ((HB.out.trans (hb.mono HB.out.size)).trans hW') (tabAt_size HT.out)
    · rintro e W' ⟨he, hj⟩
      exact ⟨he, _, rfl, hj⟩
  case assign =>
    intro l x W K hK
    gi_wp2
    exact hK
  case body =>
    rintro l pre x W ⟨⟨v, xs, hv, hrow, hch⟩, hst, hB, hC, hD, hdat⟩ ⟨hx1, hx2, hx3⟩
    have HSTEP := Lib.hid (split_step ds pre x)
    generalize (0 :: pre).getLast (by simp) = st at hst hx1 HSTEP
    have hBW := HH.out.later hB
    obtain ⟨b, o, rfl, _⟩ := hBW.some (by omega)
    have hsub := (hBW.take x).drop b o st rfl
    have HSUB := Lib.hid hsub
    have f7 := hv.cell
    have f3 := hdat.cell
    have f8 := hst.cell
    have hN0 := HwN.out
    have hNd : N + 1 + 1 + 1 < W.heap.size := (Array.getElem?_eq_some_iff.1 hD).1
    have HV := Lib.hid hv
    have HROW := Lib.hid hrow
    have HCH := Lib.hid hch
    have HST := Lib.hid hst
    have HBB := Lib.hid hB
    have HCC := Lib.hid hC
    have HDD := Lib.hid hD
    have HDT := Lib.hid hdat
    have HND := Lib.hid hNd
    have HN0 := Lib.hid hN0
    have hcs : ¬ cap = st := by omega
    have b1 : (st : Int) ≤ (x : Int) := by omega
    have b2 : (x : Int) ≤ (cap : Int) := by omega
    clear hBW hsub hv hrow hch hst hB hC hD hdat hNd hN0
    gi_wp2
    refine Kit.wpIn_region_headsL l (fun w' => w'.cell? ⟨N, 0, none⟩ = some v ∧ w'.cell? ⟨w.heap.size + 1, 0, none⟩ = some (.slice (some ⟨b, o, none⟩) ds.length cap) ∧ w'.cell? ⟨N + 1, 0, none⟩ = some (.int .i64 (st : Int))) 8
      [0, 1, 2, 3, 4] [5, 6, 7, 8] (by kernel_rfl) (by kernel_rfl) (by kernel_rfl) (by kernel_rfl) (by kernel_rfl) (by rintro ⟨a, w, h⟩; exact h) ⟨f7, f3, f8⟩ ?_
    repeat (refine Kit.heads_cons (by rfl) (.inl ⟨by rfl, fun w' hS => by (dsimp only at hS); go_simp; (try with_reducible rfl)⟩) ?_; simp only [Act.put, List.setIfInBounds_toArray, List.set_cons_zero, List.set_cons_succ])
    refine Kit.heads_nil ?_
    have hbl : ((ds.take x).drop st).length = x - st := by rw [List.length_drop, List.length_take]; omega
    have HBL := Lib.hid hbl
    clear hbl
    refine Kit.chainL_cons (by rfl) rfl fun K hK => ?_
    go_simp
    go_at_call 35
    refine (clone_any b (o + st) (x - st) (cap - st) ((ds.take x).drop st) HBL.out (by omega) (by omega) _ HSUB.out.drew).mono ?_
    rintro e w3 ⟨g, cap3, rfl, hg, hglt, hbs, hcap3, hb3⟩
    have hWd : W.drew.heap.size = W.heap.size := rfl
    have s3 : w3.cell? ⟨N, 0, none⟩ = some v ∧ w3.cell? ⟨w.heap.size + 1, 0, none⟩ = some (.slice (some ⟨b, o, none⟩) ds.length cap) ∧ w3.cell? ⟨N + 1, 0, none⟩ = some (.int .i64 (st : Int)) :=
      ⟨(hb3.cell (p := ⟨N, 0, none⟩) (by show N < W.heap.size; have := HND.out; omega)).trans f7, (hb3.cell (p := ⟨w.heap.size + 1, 0, none⟩) (by show w.heap.size + 1 < W.heap.size; have := HND.out; have := HN0.out; omega)).trans f3, (hb3.cell (p := ⟨N + 1, 0, none⟩) (by show N + 1 < W.heap.size; have := HND.out; omega)).trans f8⟩
    have HG3 := Lib.hid (grown_undrew (grown_of_below hb3))
    have HSZ3 := Lib.hid hb3.size
    have HBS := Lib.hid hbs
    have HGG := Lib.hid hg
    have HGL := Lib.hid hglt
    have HC3 := Lib.hid hcap3
    clear hb3 hbs hg hglt hWd hcap3
    refine hK _ _ (fun _ => s3) ?_
    clear hK K
    try simp only [Act.put, List.setIfInBounds_toArray, List.set_cons_zero, List.set_cons_succ]
    refine Kit.chainL_cons (by rfl) rfl fun K hK => ?_
    go_simp
    have s4 : ∀ u, (w3.alloc (.cells #[u] 52)).cell? ⟨N, 0, none⟩ = some v ∧ (w3.alloc (.cells #[u] 52)).cell? ⟨w.heap.size + 1, 0, none⟩ = some (.slice (some ⟨b, o, none⟩) ds.length cap) ∧ (w3.alloc (.cells #[u] 52)).cell? ⟨N + 1, 0, none⟩ = some (.int .i64 (st : Int)) := fun u =>
      ⟨(World.cell?_alloc_lt _ _ _ (World.block_lt_of_cell? _ _ s3.1)).trans s3.1, (World.cell?_alloc_lt _ _ _ (World.block_lt_of_cell? _ _ s3.2.1)).trans s3.2.1, (World.cell?_alloc_lt _ _ _ (World.block_lt_of_cell? _ _ s3.2.2)).trans s3.2.2⟩
    refine hK _ _ (fun _ => s4 _) ?_
    clear hK K
    try simp only [Act.put, List.setIfInBounds_toArray, List.set_cons_zero, List.set_cons_succ]
    have hrow3 : w3.ownsRow (N + 1 + 1 + 1 + 1) 52 1 v pre.length (xs.map slV) := ownsRow_new HROW.out HG3.out
    have hv3 : Boxed w3 N 32 v := HV.out.kept HG3.out (by simp)
    have hsz4 : N + 1 + 1 + 1 + 1 ≤ w3.heap.size := by have := HND.out; have h2 : W.heap.size ≤ w3.heap.size := HSZ3.out; omega
    refine Kit.chainL_cons (by rfl) rfl fun K hK => wp_append_own _ (.tmp 21) (.tmp 27) 32 (by rfl) (N + 1 + 1 + 1 + 1) 52 i0 (.slice none 0 0) 1 24 Tryz.underlying32 HI.out HZ0.out HZ1.out HZ2.out rfl (by decide) v pre.length (xs.map slV) (by rfl) (hrow3.alloc _) ⟨w3.heap.size, 0, none⟩ 1 1 [.slice (some ⟨g, 0, none⟩) (x - st) cap3] (by rfl) rfl (cell_one_new _ _ _) (by simp [Value.oneCell']) (by unfold maxLen; omega) (by omega) (by simp; omega) (fun v' w4 hown' hgrow _ => ?_)
    obtain ⟨g', cap', rfl⟩ := ownsRow_succ hown'
    have hv1 : Boxed w4 N 32 v := (hv3.alloc _).kept hgrow (hv3.not_row (by decide) hrow3)
    have s5 : w4.cell? ⟨N, 0, none⟩ = some v ∧ w4.cell? ⟨w.heap.size + 1, 0, none⟩ = some (.slice (some ⟨b, o, none⟩) ds.length cap) ∧ w4.cell? ⟨N + 1, 0, none⟩ = some (.int .i64 (st : Int)) := by
      have hst4 : Boxed w4 (N + 1) 3 (.int .i64 (st : Int)) := ((HST.out.kept HG3.out (by simp)).alloc _).kept hgrow ((HST.out.kept HG3.out (by simp)).not_row (by decide) hrow3)
      have hdt4 : Boxed w4 (w.heap.size + 1) 52 (.slice (some ⟨b, o, none⟩) ds.length cap) := ((HDT.out.kept HG3.out (by simp)).alloc _).kept hgrow (fun e => by have := (hrow3.lt _ e.symm).1; have := HN0.out; omega)
      exact ⟨hv1.cell, hdt4.cell, hst4.cell⟩
    refine hK _ _ (fun _ => s5) ?_
    clear hK K
    try simp only [Act.put, List.setIfInBounds_toArray, List.set_cons_zero, List.set_cons_succ]
    have hc5 := hv1.cell
    have hf5 := hv1.frozen
    refine Kit.chainL_cons (by rfl) rfl fun K hK => ?_
    go_simp
    refine hK _ _ (fun h => absurd rfl h) ?_
    clear hK K
    refine Kit.chainL_done ?_
    try simp only [Act.put]
    have hst4 : Boxed w4 (N + 1) 3 (.int .i64 (st : Int)) := ((HST.out.kept HG3.out (by simp)).alloc _).kept hgrow ((HST.out.kept HG3.out (by simp)).not_row (by decide) hrow3)
    have hst5 : Boxed (w4.setCell ⟨N, 0, none⟩ (.slice (some ⟨g', 0, none⟩) (pre.length + 1) cap')) (N + 1) 3 (.int .i64 (st : Int)) := hst4.kept (grownBy_setCell' w4 N _) (by simp)
    have HGR := Lib.hid (show (w3.alloc (.cells #[.slice (some ⟨g, 0, none⟩) (x - st) cap3] 52)).grownBy w4 v.ownBlock from hgrow)
    have HO' := Lib.hid hown'
    have HR3 := Lib.hid hrow3
    have HV3 := Lib.hid hv3
    have HS5 := Lib.hid hst5
    have hc6 := hst5.cell
    have hf6 := hst5.frozen
    clear hgrow hown' hrow3 hv3 hst4 hst5 hc5 hf5 s5 s4 s3 f7 f3 f8 hv1
    gi_wp2
    obtain ⟨k1, k2, k3, k4⟩ := KpE.appended (n₀ := w.heap.size) (Nc := N + 1 + 1) HV3.out (by decide) (by decide) (by decide) HR3.out (by have := HN0.out; omega) (by have := HN0.out; omega) (by omega) (by omega) (by omega) HO'.out HGR.out
    have hg1 := HG3.out
    have hND := HND.out
    have hN0 := HN0.out
    have kN : KpE w.heap.size (N + 1 + 1) (N + 1 + 1 + 1) W w3 := KpE.new hg1 (by omega) (by omega) (by omega)
    have kS := KpE.setBox (n₀ := w.heap.size) (Nc := N + 1 + 1) (Nd := N + 1 + 1 + 1) (.int .i64 (x : Int)) HS5.out (by decide) (by omega) (by omega) (by omega)
    have hVsz : V.heap.size = N + 4 := HS.out
    refine ⟨((KeepsFrom.of_grownBy hg1 (fun j e => by cases e)).trans ⟨k1.size, fun k o hk => k1.same k o (by omega)⟩).trans ((KeepsOthers.setCell _ _ _).from _), (kN.trans k2).trans kS, ⟨_, xs ++ [(some ⟨g, 0, none⟩, x - st, cap3)], k3.kept (grownBy_setCell' _ _ _) (by simp), ?_, ?_⟩, ?_, (HBB.out.trans kN.below).trans (k2.below.trans kS.below), ?_, ?_, ?_⟩
    · have e : (xs ++ [((some ⟨g, 0, none⟩ : Option Addr), x - st, cap3)]).map slV = xs.map slV ++ [.slice (some ⟨g, 0, none⟩) (x - st) cap3] := by simp
      rw [e, List.length_append]
      refine k4.kept (grownBy_setCell' _ _ _) (.inr ?_)
      intro e'
      have h1 := (HO'.out.lt (N + 1) e').1
      omega
    · rw [HSTEP.out]
      have hbl := HBL.out
      have h1 : ChL w3 xs (pieces ds 0 pre) := HCH.out.keep fun g cur f hh => hg1.block g (Array.getElem?_eq_some_iff.1 hh).1 (by simp)
      have h2 := h1.snoc HBS.out (by rw [hbl]; exact HC3.out) HGL.out
      rw [hbl] at h2
      refine h2.keep fun g2 cur f hh => ?_
      have hlt := (Array.getElem?_eq_some_iff.1 hh).1
      have n1 : g2 ≠ N := by rintro rfl; have := HV3.out; rw [show w3.heap[g2]? = _ from this] at hh; cases hh
      have n3 : Boxed w3 (N + 1) 3 (.int .i64 (st : Int)) := HST.out.kept hg1 (by simp)
      have n2 : g2 ≠ N + 1 := by rintro rfl; rw [show w3.heap[N + 1]? = _ from n3] at hh; cases hh
      rw [Below.heap_setCell _ _ _ _ n2]
      exact appended_other HGR.out hlt n1 (not_row_of HR3.out hh (by decide))
    · have e : (0 :: (pre ++ [x])).getLast (by simp) = x := by
        simp only [← List.cons_append]; exact List.getLast_concat
      rw [e]
      exact HS5.out.set _
    · exact (Below.heap_setCell _ _ _ _ (by show N + 1 + 1 ≠ N + 1; omega)).trans ((k2.c.trans kN.c).trans HCC.out)
    · exact (Below.heap_setCell _ _ _ _ (by show N + 1 + 1 + 1 ≠ N + 1; omega)).trans ((k2.d.trans kN.d).trans HDD.out)
    · have hd3 : Boxed w3 (w.heap.size + 1) 52 (.slice (some ⟨b, o, none⟩) ds.length cap) := HDT.out.kept hg1 (by simp)
      exact (Below.heap_setCell _ _ _ _ (by show w.heap.size + 1 ≠ N + 1; omega)).trans ((appended_other HGR.out hd3.lt (by omega) (fun e' => by have := (HR3.out.lt _ e'.symm).1; omega)).trans hd3)
  case done =>
    rintro D ys W hD rfl ⟨⟨v, xs, hv, hrow, hch⟩, hst, hB, hC, hD, hdat⟩ hK
    have hc := hv.cell
    have HR := Lib.hid hrow
    have HCh := Lib.hid hch
    have HB3 := Lib.hid hB
    have HK3 := Lib.hid hK
    clear hrow hB hC hD hK hch hst hdat
    go_wp2_with fail
    refine ⟨by simp, .inl ⟨_, _, rfl, run_takeDeferred HK3.out, ?_⟩⟩
    refine ⟨_, results_tmp2 rfl _ _ _, _, xs, rfl, ownsRow_putObj (ownsRow_base HR.out (by have := HwN.out; omega)) _ HK3.out rfl, ?_, HB3.out.trans (belowK_b (w := w) (Nat.le_refl _) W D _ _ (by have := HB.out.size; omega) HK3.out rfl rfl)⟩
    rw [chunks_pieces]
    exact HCh.out.keep fun g cur f hg => World.putObj_heap_other (by rintro rfl; have := HK3.out; rw [hg] at this; cases this)
end Go.Proofs.YtmcbnhkcjhlbaaaGreatDoor.Ck
