/- Texts KEnds, KCuts, KHeldL of the proof, each as a section; no premises beyond those that each theorem states. -/
import Derived.Test.YtmcbnhkcjhlbaaaGreatDoorP07
import Derived.Test.YtmcbnhkcjhlbaaaGreatDoorP08
set_option linter.unusedVariables false
set_option linter.unusedSimpArgs false
section
namespace Go.Proofs.YtmcbnhkcjhlbaaaGreatDoor.Ck
open Go.RowKit
open Roll (u)
open Go.Proofs.YtmcbnhkcjhlbaaaGreatDoor.Kit (Chg)
open Chk

structure KpE (n₀ Nc Nd : Nat) (W W' : World) : Prop where
  below : Below n₀ W W'
  c : W'.heap[Nc]? = W.heap[Nc]?
  d : W'.heap[Nd]? = W.heap[Nd]?
  mark : ∀ (k : Nat) (c : Array Value) (f : Nat × Nat), W.heap[k]? = some (Obj.cells c 166 f) → W'.heap[k]? = W.heap[k]?
theorem KpE.trans {n₀ Nc Nd : Nat} {A B C : World} (h : KpE n₀ Nc Nd A B) (k : KpE n₀ Nc Nd B C) : KpE n₀ Nc Nd A C :=
  ⟨h.below.trans k.below, k.c.trans h.c, k.d.trans h.d, fun b c f hb => (k.mark b c f ((h.mark b c f hb).trans hb)).trans (h.mark b c f hb)⟩
theorem KpE.put {n₀ Nc Nd : Nat} {w : World} (hn : n₀ ≤ w.heap.size) (hc : Nc < w.heap.size) (hd : Nd < w.heap.size) (W : World) (l : Nat) (o o' : Obj) (hl : w.heap.size ≤ l) (h : W.heap[l]? = some o) (ho : o.isCells = false) : KpE n₀ Nc Nd W (W.putObj l o') :=
  ⟨(Below.refl n₀ W).grown (grownBy_putObj' W l o') (by have := (Array.getElem?_eq_some_iff.1 h).1; omega) (fun k e => by cases e; omega), World.putObj_heap_other (by omega), World.putObj_heap_other (by omega),
   fun k c f hk => World.putObj_heap_other (by rintro rfl; rw [h] at hk; cases hk; cases ho)⟩

theorem _root_.Go.Proofs.YtmcbnhkcjhlbaaaGreatDoor.Kit.Chg.grown {M : Nat → Nat → Prop} {w w' : World} (h : Chg M w w') (b : Nat) (hM : ∀ k i, M k i → k = b) : w.grownBy w' (some b) :=
  ⟨h.os, h.tape, h.output, h.size, fun k hk hne => h.other k hk (fun i hi => hne (by rw [hM k i hi]))⟩

theorem grown_of_below {w w' : World} (h : Below w.heap.size w w') : w.grownBy w' none := ⟨h.os, h.tape, h.output, h.size, fun k hk _ => h.block k hk⟩
theorem grown_setRow (w : World) (g : Nat) (cs : Array Value) : w.grownBy (w.setRow g cs) (some g) := ⟨rfl, rfl, rfl, by simp, fun k _ hne => setRow_other w g k cs (fun e => hne (by rw [e]))⟩
theorem MarkAt.same {w w' : World} {b : Nat} {c : Cut} {ps : List Nat} (h : MarkAt w b c ps) (hb : w'.heap[b]? = w.heap[b]?) : MarkAt w' b c ps := by
  have hc : ∀ i, w'.cell? ⟨b, i, none⟩ = w.cell? ⟨b, i, none⟩ := fun i => World.cell?_of_block (a := ⟨b, i, none⟩) hb
  have hf : ∀ i, w'.frozen? ⟨b, i, none⟩ = w.frozen? ⟨b, i, none⟩ := fun i => World.frozen?_of_block (a := ⟨b, i, none⟩) hb
  obtain ⟨st, hr⟩ := h.roll
  exact ⟨⟨st, ⟨fun i hi => (hc _).trans (hr.table i hi), fun i hi => let ⟨v, hv, hcv⟩ := hr.ring i hi; ⟨v, hv, (hc _).trans hcv⟩, fun i hi => (hc _).trans (hr.held i hi), (hc _).trans hr.window, (hc _).trans hr.start, (hc _).trans hr.length, (hc _).trans hr.sum,
      fun i hi => (hf _).trans (hr.free i hi), hr.st64, hr.win1, hr.win64, hr.full, hr.bytes⟩⟩,
    (hc _).trans h.mn, (hc _).trans h.mx, (hc _).trans h.win, (hc _).trans h.bits, (hc _).trans h.pos, (hc _).trans h.last, (hf _).trans h.free1, (hf _).trans h.free2, h.some⟩
theorem markAt_kept {w w' : World} {b n₀ Nc Nd : Nat} {c : Cut} {ps : List Nat} (h : MarkAt w b c ps) (hk : KpE n₀ Nc Nd w w') (ht : ∃ cc f, w.heap[b]? = some (.cells cc 166 f)) : MarkAt w' b c ps := by
  obtain ⟨cc, f, h1⟩ := ht
  exact h.same (hk.mark b cc f h1)
def em (c : Cut) (ds : List Nat) (k : Nat) : List Nat := if k < ds.length then cutsS c ds k else cuts c ds
theorem em_zero (c : Cut) (ds : List Nat) : em c ds 0 = [] := by
  unfold em
  split
  · rfl
  · exact (cuts_nil c ds (by omega)).1
theorem em_full (c : Cut) (ds : List Nat) : em c ds ds.length = cuts c ds := by unfold em; rw [if_neg (Nat.lt_irrefl _)]
theorem em_stay (c : Cut) (ds : List Nat) (k : Nat) (h : k + 1 < ds.length) (hp : prim c ds (k + 1) = false) (hs : k + 1 - startS c ds k < c.mx) : em c ds (k + 1) = em c ds k ∧ startS c ds (k + 1) = startS c ds k := by
  have hc : cutS c ds k = false := by
    unfold cutS; rw [hp, Bool.false_or, decide_eq_false_iff_not]; omega
  unfold em
  rw [if_pos h, if_pos (by omega), cutsS_no hc, startS_no hc]
  exact ⟨rfl, rfl⟩
theorem em_go (c : Cut) (ds : List Nat) (k : Nat) (h : k < ds.length) (hm : 1 ≤ c.mx) (hp : prim c ds (k + 1) = true ∨ ¬ k + 1 - startS c ds k < c.mx ∨ ¬ k + 1 < ds.length) : em c ds (k + 1) = em c ds k ++ [k + 1] ∧ (k + 1 < ds.length → startS c ds (k + 1) = k + 1) := by
  have hmx := startS_mx c ds hm k
  have hle := startS_le c ds k
  unfold em
  rw [if_pos h]
  by_cases hl : k + 1 < ds.length
  · have hc : cutS c ds k = true := by
      unfold cutS
      rcases hp with hp | hp | hp
      · rw [hp]; rfl
      · rw [decide_eq_true (by omega), Bool.or_true]
      · exact absurd hl hp
    rw [if_pos hl, cutsS_yes hc]
    exact ⟨rfl, fun _ => startS_yes hc⟩
  · rw [if_neg hl]
    exact ⟨(cuts_last c ds k (by omega)).1, fun h' => absurd h' hl⟩
def NextOk (ds pre : List Nat) (x : Nat) : Prop := (0 :: pre).getLast (by simp) < x ∧ x ≤ ds.length ∧ pre.length ≤ ds.length
theorem next_em (c : Cut) (ds : List Nat) (k : Nat) (h : k < ds.length) : NextOk ds (em c ds k) (k + 1) := by
  unfold NextOk em
  simp only [if_pos h]
  have := startS_le c ds k
  have := cutsS_length c ds k
  exact ⟨by rw [cutsS_getLast]; omega, by omega, by omega⟩

def EndsRel (n₀ Nc Nd bm : Nat) (c : Cut) (a : Option Addr) (cap : Nat) (ds : List Nat) (J : List Nat → World → Prop) (W : World) (s i : Value) (wr : World) : Prop :=
  ∃ (k : Nat) (st : Nat), k ≤ ds.length ∧ i = .int .i64 k ∧ s = .int .i64 st ∧ (k < ds.length → st = startS c ds k) ∧ MarkAt wr bm c (ds.take k) ∧ J (em c ds k) wr ∧ Below n₀ W wr ∧
    wr.heap[Nc]? = some (.cells #[.int .i64 c.mn, .int .i64 c.mx, .int .i64 c.win, .int .i64 c.bits, .int .u64 (u c.seed)] 42 (0, 0)) ∧ wr.heap[Nd]? = some (.cells #[.slice a ds.length cap] 52 (0, 0)) ∧ (∃ cc f, wr.heap[bm]? = some (.cells cc 166 f))

attribute [local go_sem] Oper.semAt_some

set_option maxRecDepth 100000 in
set_option maxHeartbeats 1000000 in
theorem ends1 (n m : Nat) (c : Cut) (hk : c.Ok) (a : Option Addr) (cap : Nat) (ds : List Nat) (hl : ds.length ≤ 1000000) (n₀ Nc Nd l : Nat) (J : List Nat → World → Prop) (W : World) (hJ : AbidesT W.heap.size 166 J)
    (hY : ∀ pre x W1, J pre W1 → NextOk ds pre x → YieldAt Fence.wide m Tryz.prog l #[.int .i64 ((x : Nat) : Int)] W1 fun e W' => e = .returned (.bool true) ∧ J (pre ++ [x]) W' ∧ KpE n₀ Nc Nd W1 W')
    (h0 : J [] W) (hc : W.heap[Nc]? = some (.cells #[.int .i64 c.mn, .int .i64 c.mx, .int .i64 c.win, .int .i64 c.bits, .int .u64 (u c.seed)] 42 (0, 0))) (hd : W.heap[Nd]? = some (.cells #[.slice a ds.length cap] 52 (0, 0)))
    (hB : ∀ W', Below n₀ W W' → BytesAt W' a ds) (hT : ∀ W', Below n₀ W W' → TabAt 4 Lib.deBruijn64tab W') (hn₀ : n₀ ≤ W.heap.size) :
    CallsIn Fence.wide n Tryz.prog 76 #[.func (.yield l) #[] #[], .pointer (some ⟨Nc, 0, none⟩), .pointer (some ⟨Nd, 0, none⟩)] W fun e W' => (∃ v, e = .returned v) ∧ J (cuts c ds) W' := by
  have HK := Lib.hid hk
  have HJ := Lib.hid hJ
  have HY := Lib.hid hY
  have HB := Lib.hid hB
  have HT := Lib.hid hT
  have H0 := Lib.hid h0
  have HC := Lib.hid hc
  have HD := Lib.hid hd
  have c0 : ∀ i, W.cell? ⟨Nc, i, none⟩ = (#[.int .i64 c.mn, .int .i64 c.mx, .int .i64 c.win, .int .i64 c.bits, .int .u64 (u c.seed)] : Array Value)[i]? := fun i => cell_of_row _ _ _ _ _ _ hc
  have e0 := c0 0
  have e1 := c0 1
  have e2 := c0 2
  have e3 := c0 3
  have e4 := c0 4
  clear hk hJ hY hB hT h0 hc hd c0
  refine callsIn_of_wp Tryz.func76 rfl trivial ?_ rfl
  simp only [Tryz.ntmps76, List.size_toArray, List.length_cons, List.length_nil, Nat.reduceAdd, Nat.reduceSub, Array.replicate_succ, Array.replicate_zero, List.push_toArray, List.append_toArray, List.nil_append, List.cons_append]
  refine wpIn_wide.2 ?_
  go_wp2_with fail
  refine (newMarker_ok c HK.out W).mono ?_
  rintro e w2 ⟨rfl, hb2⟩
  have HB2 := Lib.hid hb2
  have d0 : (w2.alloc (.cells Tryz.zeroCells166 166)).heap[Nd]? = some (.cells #[.slice a ds.length cap] 52 (0, 0)) := (Below.heap_alloc _ _ _ (Nat.lt_of_lt_of_le (Array.getElem?_eq_some_iff.1 HD.out).1 hb2.size)).trans ((hb2.block Nd (Array.getElem?_eq_some_iff.1 HD.out).1).trans HD.out)
  have hne : Nd ≠ w2.heap.size := by have := (Array.getElem?_eq_some_iff.1 HD.out).1; have := hb2.size; omega
  have d1 : ((w2.alloc (.cells Tryz.zeroCells166 166)).setRow w2.heap.size (markRow c.mn c.mx c.win c.bits c.seed)).cell? ⟨Nd, 0, none⟩ = some (.slice a ds.length cap) := (cell_setRow_other _ _ _ _ hne).trans (cell_of_row _ _ _ _ _ _ d0)
  have D0 := Lib.hid d0
  clear hb2 d0 e0 e1 e2 e3 e4
  go_wp2_with (refine wpList_store81 rfl (.tmp 4) (.tmp 10) (by rfl) w2.heap.size (markRow c.mn c.mx c.win c.bits c.seed) Tryz.zeroCells166 (markRow_size _ _ _ _ _) (markRow_one _ _ _ _ _) (by rfl) (by rfl) (heap_alloc_new _ _) Tryz.zcells166 ?_)
  refine wp_over (fun V => Hid (MarkAt V w2.heap.size c []) ∧ Hid (J [] V) ∧ Hid (Below n₀ W V) ∧ Hid (V.heap[Nc]? = some (.cells #[.int .i64 c.mn, .int .i64 c.mx, .int .i64 c.win, .int .i64 c.bits, .int .u64 (u c.seed)] 42 (0, 0))) ∧ Hid (V.heap[Nd]? = some (.cells #[.slice a ds.length cap] 52 (0, 0))) ∧ Hid (∃ cc f, V.heap[w2.heap.size]? = some (.cells cc 166 f)) ∧ Hid (W.heap.size ≤ w2.heap.size)) ⟨?_, ?_, ?_, ?_, ?_, ?_, HB2.out.size⟩ ?_
  · have hg := setRow_heap (w2.alloc (.cells Tryz.zeroCells166 166)) w2.heap.size _ (markRow c.mn c.mx c.win c.bits c.seed) 166 (0, 0) (heap_alloc_new _ _)
    exact mark_new c HK.out _ _ 166 [] (by have := tabAt_size (HT.out W (Below.refl _ _)); have := HB2.out.size; omega) (by simpa using hg)
  · have g1 : J [] w2 := HJ.out _ _ _ none H0.out (grown_of_below HB2.out) (fun r e => by cases e)
    have g2 : J [] (w2.alloc (.cells Tryz.zeroCells166 166)) := HJ.out _ _ _ none g1 (World.grownBy_alloc _ _ none) (fun r e => by cases e)
    exact HJ.out _ _ _ (some w2.heap.size) g2 (grown_setRow _ _ _) (fun r e => by cases e; exact ⟨HB2.out.size, _, _, heap_alloc_new _ _⟩)
  · exact below_setRow ((HB2.out.mono hn₀).alloc (Nat.le_trans hn₀ HB2.out.size) _) (Nat.le_trans hn₀ HB2.out.size) _
  · have hlt := (Array.getElem?_eq_some_iff.1 HC.out).1
    have := HB2.out.size
    show _ = _
    rw [setRow_other _ _ _ _ (by omega), Below.heap_alloc _ _ _ (by omega), HB2.out.block Nc hlt]
    exact HC.out
  · show _ = _
    rw [setRow_other _ _ _ _ hne]
    exact D0.out
  · exact ⟨_, _, setRow_heap (w2.alloc (.cells Tryz.zeroCells166 166)) w2.heap.size _ (markRow c.mn c.mx c.win c.bits c.seed) 166 (0, 0) (heap_alloc_new _ _)⟩
  rintro V ⟨HM, HJ0, HBW, HCV, HDV, HTy, HSz⟩
  generalize hbm : w2.heap.size = bm at *
  clear hbm hne d1 D0
  go_loopw [5, 13] (fun s i wr => EndsRel n₀ Nc Nd bm c a cap ds J W s i wr) (fun _ i _ => ds.length - (intOf i).toNat)
  case atStart => exact ⟨0, 0, Nat.zero_le _, rfl, rfl, fun _ => rfl, HM.out, by rw [em_zero]; exact HJ0.out, HBW.out, HCV.out, HDV.out, HTy.out⟩
  case round =>
    obtain ⟨k, st, hk, rfl, rfl, hst, hm, hj, hb, hcc, hdd, hty⟩ := hrel
    have HMk := Lib.hid hm
    have HJk := Lib.hid hj
    have HBk := Lib.hid hb
    have HCk := Lib.hid hcc
    have HDk := Lib.hid hdd
    have HTk := Lib.hid hty
    have HST := Lib.hid hst
    clear hm hj hb hcc hdd hty hst
    by_cases hlt : k < ds.length
    · have hst := HST.out hlt
      clear HST
      have hbr := HB.out wr HBk.out
      obtain ⟨b, o, rfl, hcell⟩ := hbr.some (by omega)
      have hck := hcell k hlt
      have hx := hbr.getD_lt k hlt
      have HT2 := Lib.hid (HT.out wr HBk.out)
      clear hcell hbr
      obtain ⟨x, hxe⟩ : ∃ x, x = ds.getD k 0 := ⟨_, rfl⟩
      rw [← hxe] at hck hx
      have HX := Lib.hid hxe
      clear hxe
      go_wp2_with fail
      refine (step_at bm c HK.out ds k hlt x HX.out hx (by omega) _ HMk.out HT2.out).mono ?_
      rintro e V2 ⟨rfl, hm3, hc3⟩
      have HM3 := Lib.hid hm3
      have hg3 := hc3.grown bm (fun g i h => h.1)
      have HJ3 : Hid (J (em c ds k) V2) := HJ.out _ _ _ (some bm) HJk.out hg3 (fun r e => by cases e; obtain ⟨cc, f, h⟩ := HTk.out; exact ⟨HSz.out, cc, f, h⟩)
      have HB3 : Hid (Below n₀ W V2) := HBk.out.trans (hc3.below (Nat.le_trans hn₀ HBk.out.size) (fun g i hg hi => by have := hi.1; have := HSz.out; omega))
      have hNc : Nc ≠ bm := by rintro rfl; obtain ⟨cc, f, h⟩ := HTk.out; have := HCk.out; rw [this] at h; cases h
      have hNd : Nd ≠ bm := by rintro rfl; obtain ⟨cc, f, h⟩ := HTk.out; have := HDk.out; rw [this] at h; cases h
      have HC3 : Hid (V2.heap[Nc]? = some (.cells #[.int .i64 c.mn, .int .i64 c.mx, .int .i64 c.win, .int .i64 c.bits, .int .u64 (u c.seed)] 42 (0, 0))) := (hg3.block Nc (Array.getElem?_eq_some_iff.1 HCk.out).1 (by simpa using hNc)).trans HCk.out
      have HD3 : Hid (V2.heap[Nd]? = some (.cells #[.slice (some ⟨b, o, none⟩) ds.length cap] 52 (0, 0))) := (hg3.block Nd (Array.getElem?_eq_some_iff.1 HDk.out).1 (by simpa using hNd)).trans HDk.out
      have HT3 : Hid (∃ cc f, V2.heap[bm]? = some (.cells cc 166 f)) := by
        obtain ⟨cc, f, h⟩ := HTk.out
        obtain ⟨cc', h', _⟩ := hc3.cells bm ⟨0, fun h => by have := h.2.1; omega⟩ _ _ _ h
        exact ⟨cc', f, h'⟩
      have q1 : V2.cell? ⟨Nc, 1, none⟩ = some (.int .i64 c.mx) := by rw [cell_of_row _ _ _ _ _ _ HC3.out]; rfl
      have q2 : V2.cell? ⟨Nd, 0, none⟩ = some (.slice (some ⟨b, o, none⟩) ds.length cap) := by rw [cell_of_row _ _ _ _ _ _ HD3.out]; rfl
      have hmx : (c.mx : Int) ≤ 32768 := by have := HK.out.most; omega
      have hsl := startS_le c ds k
      rw [← hst] at hsl
      clear hm3 hc3 hg3 hNc hNd
      cases hp : prim c ds (k + 1) with
      | true =>
        have HG := em_go c ds k hlt (by have := HK.out.mx; have := HK.out.mn; have := HK.out.win1; omega) (.inl hp)
        have HE := Lib.hid HG.1
        have HS2 := Lib.hid HG.2
        clear HG
        have hy0 := HY.out (em c ds k) (k + 1) V2 HJ3.out (next_em c ds k hlt)
        rw [show (((k + 1 : Nat) : Int)) = (k : Int) + 1 from rfl] at hy0
        obtain ⟨fn, tmps, assign, body, hy, hR⟩ := hy0
        have HR := Lib.hid hR
        clear hR hst hp
        go_upto_region 7 with fail
        refine (wpIn_wide (n := m + 1)).1 ?_
        gi_wp2
        refine HR.out.mono ?_
        rintro e W3 ⟨rfl, hJ4, hk4⟩
        have HJ4 := Lib.hid hJ4
        have HKp := Lib.hid hk4
        clear hJ4 hk4
        gi_wp2
        go_wp2_with fail
        go_roundw
        case rel => exact ⟨k + 1, k + 1, by omega, by go_num, by go_num, fun h => (HS2.out h).symm, markAt_kept HM3.out HKp.out HT3.out, by rw [HE.out]; exact HJ4.out, HB3.out.trans HKp.out.below, HKp.out.c.trans HC3.out, HKp.out.d.trans HD3.out, by obtain ⟨cc, f, h⟩ := HT3.out; exact ⟨cc, f, (HKp.out.mark _ _ _ h).trans h⟩⟩
        case measure => simp [intOf]; omega
      | false =>
        by_cases hA : k + 1 - st < c.mx
        · have g1 : (k : Int) + 1 - (st : Int) < (c.mx : Int) := by omega
          by_cases hB : k + 1 < ds.length
          · have g2 : (k : Int) + 1 < (ds.length : Int) := by omega
            have HG := Lib.hid (em_stay c ds k hB hp (by rw [← hst]; exact hA))
            have HST2 := Lib.hid hst
            clear hp hst
            go_wp2_with fail
            go_roundw
            case rel => exact ⟨k + 1, st, by omega, by go_num, rfl, fun _ => by rw [HG.out.2]; exact HST2.out, HM3.out, by rw [HG.out.1]; exact HJ3.out, HB3.out, HC3.out, HD3.out, HT3.out⟩
            case measure => simp [intOf]; omega
          · have g2 : ¬ (k : Int) + 1 < (ds.length : Int) := by omega
            have HG := em_go c ds k hlt (by have := HK.out.mx; have := HK.out.mn; have := HK.out.win1; omega) (.inr (.inr hB))
            have HE := Lib.hid HG.1
            have HS2 := Lib.hid HG.2
            clear HG
            have hy0 := HY.out (em c ds k) (k + 1) V2 HJ3.out (next_em c ds k hlt)
            rw [show (((k + 1 : Nat) : Int)) = (k : Int) + 1 from rfl] at hy0
            obtain ⟨fn, tmps, assign, body, hy, hR⟩ := hy0
            have HR := Lib.hid hR
            clear hR hst hp
            go_upto_region 7 with fail
            refine (wpIn_wide (n := m + 1)).1 ?_
            gi_wp2
            refine HR.out.mono ?_
            rintro e W3 ⟨rfl, hJ4, hk4⟩
            have HJ4 := Lib.hid hJ4
            have HKp := Lib.hid hk4
            clear hJ4 hk4
            gi_wp2
            go_wp2_with fail
            go_roundw
            case rel => exact ⟨k + 1, k + 1, by omega, by go_num, by go_num, fun h => (HS2.out h).symm, markAt_kept HM3.out HKp.out HT3.out, by rw [HE.out]; exact HJ4.out, HB3.out.trans HKp.out.below, HKp.out.c.trans HC3.out, HKp.out.d.trans HD3.out, by obtain ⟨cc, f, h⟩ := HT3.out; exact ⟨cc, f, (HKp.out.mark _ _ _ h).trans h⟩⟩
            case measure => simp [intOf]; omega
        · have g1 : ¬ (k : Int) + 1 - (st : Int) < (c.mx : Int) := by omega
          have HG := em_go c ds k hlt (by have := HK.out.mx; have := HK.out.mn; have := HK.out.win1; omega) (.inr (.inl (by rw [← hst]; exact hA)))
          have HE := Lib.hid HG.1
          have HS2 := Lib.hid HG.2
          clear HG
          have hy0 := HY.out (em c ds k) (k + 1) V2 HJ3.out (next_em c ds k hlt)
          rw [show (((k + 1 : Nat) : Int)) = (k : Int) + 1 from rfl] at hy0
          obtain ⟨fn, tmps, assign, body, hy, hR⟩ := hy0
          have HR := Lib.hid hR
          clear hR hst hp
          go_upto_region 7 with fail
          refine (wpIn_wide (n := m + 1)).1 ?_
          gi_wp2
          refine HR.out.mono ?_
          rintro e W3 ⟨rfl, hJ4, hk4⟩
          have HJ4 := Lib.hid hJ4
          have HKp := Lib.hid hk4
          clear hJ4 hk4
          gi_wp2
          go_wp2_with fail
          go_roundw
          case rel => exact ⟨k + 1, k + 1, by omega, by go_num, by go_num, fun h => (HS2.out h).symm, markAt_kept HM3.out HKp.out HT3.out, by rw [HE.out]; exact HJ4.out, HB3.out.trans HKp.out.below, HKp.out.c.trans HC3.out, HKp.out.d.trans HD3.out, by obtain ⟨cc, f, h⟩ := HT3.out; exact ⟨cc, f, (HKp.out.mark _ _ _ h).trans h⟩⟩
          case measure => simp [intOf]; omega
    · have e : k = ds.length := by omega
      subst e
      go_wp2_with fail
      go_end0
      exact ⟨⟨_, rfl⟩, by have := HJk.out; rwa [em_full] at this⟩
end Go.Proofs.YtmcbnhkcjhlbaaaGreatDoor.Ck
end
section
namespace Go.Proofs.YtmcbnhkcjhlbaaaGreatDoor.Ck
open Go.RowKit
open Roll (u)
open Go.Proofs.YtmcbnhkcjhlbaaaGreatDoor.Kit (Chg)
open Chk

set_option maxHeartbeats 400000 in
theorem ends_any (mn mx win bits : Int) (s : BitVec 64) (a : Option Addr) (n m : Nat) (w : World) :
    Calls Tryz.prog 34 #[.agg #[.int .i64 mn, .int .i64 mx, .int .i64 win, .int .i64 bits, .int .u64 (u s)], .slice a n m] w fun e w' =>
      e = .returned (.func (.func 76) #[] #[.pointer (some ⟨w.heap.size, 0, none⟩), .pointer (some ⟨w.heap.size + 1, 0, none⟩)]) ∧ w' = (w.alloc (.cells #[.int .i64 mn, .int .i64 mx, .int .i64 win, .int .i64 bits, .int .u64 (u s)] 42)).alloc (.cells #[.slice a n m] 52) := by
  go_enter Tryz.func34, Tryz.ntmps34
  go_wp2_with fail
  go_ret
  exact ⟨rfl, rfl⟩

theorem appended_other {W w1 : World} {B k : Nat} {row : Option Nat} {v' : Value} {tmp : Obj} (hgrow : (W.alloc tmp).grownBy w1 row) (hk : k < W.heap.size) (h1 : k ≠ B) (h2 : some k ≠ row) : (w1.setCell ⟨B, 0, none⟩ v').heap[k]? = W.heap[k]? := by
  rw [Below.heap_setCell _ _ _ _ h1, hgrow.block k (by simp; omega) h2, Below.heap_alloc _ _ _ hk]

theorem not_row_of {W : World} {base e size n k : Nat} {v : Value} {xs : List Value} {c : Array Value} {T : TypeId} {f : Nat × Nat} (hr : W.ownsRow base e size v n xs) (hk : W.heap[k]? = some (.cells c T f)) (hT : T ≠ e) : some k ≠ v.ownBlock := by
  rcases hr.2 with ⟨rfl, _⟩ | ⟨g, cap, cur, rfl, _, hgb, _⟩
  · simp [Value.ownBlock]
  · intro e'
    obtain rfl : k = g := by simpa [Value.ownBlock] using e'
    rw [hgb] at hk
    cases hk
    exact hT rfl
theorem KpE.appended {W w4 : World} {n₀ Bx Nc Nd t e size n m : Nat} {v v' : Value} {xs ys : List Value} {tmp : Obj} (hv : Boxed W Bx t v) (hte : t ≠ e) (ht : t ≠ 166) (he : e ≠ 166) (hrow : W.ownsRow (Nd + 1) e size v n xs) (hn : n₀ ≤ W.heap.size) (hB : n₀ ≤ Bx)
    (hc : Bx < Nc) (hd : Nc < Nd) (hdd : Nd < W.heap.size) (hown' : w4.ownsRow (Nd + 1) e size v' m ys) (hgrow : (W.alloc tmp).grownBy w4 v.ownBlock) :
    KeepsFrom n₀ W (w4.setCell ⟨Bx, 0, none⟩ v') ∧ KpE n₀ Nc Nd W (w4.setCell ⟨Bx, 0, none⟩ v') ∧ Boxed (w4.setCell ⟨Bx, 0, none⟩ v') Bx t v' ∧ (w4.setCell ⟨Bx, 0, none⟩ v').ownsRow (Nd + 1) e size v' m ys := by
  obtain ⟨hv1, hv2, _, hk2, hb2⟩ := hv.appended hte (ownsRow_base hrow (by omega)) hn hB (ownsRow_base hown' (by omega)) hgrow
  refine ⟨hk2.from _, ⟨hb2, appended_other hgrow (by omega) (by omega) (fun e => by have := (hrow.lt _ e.symm).1; omega), appended_other hgrow (by omega) (by omega) (fun e => by have := (hrow.lt _ e.symm).1; omega), fun k c f hk => ?_⟩, hv2, hown'.kept (grownBy_setCell' w4 Bx v') (.inr (hv1.not_row hte hown').symm)⟩
  refine appended_other hgrow (Array.getElem?_eq_some_iff.1 hk).1 (fun e' => ?_) (not_row_of hrow hk (Ne.symm he))
  subst e'
  rw [show W.heap[k]? = _ from hv] at hk
  cases hk
  exact ht rfl
def CutsI (n₀ Bx Nc Nd : Nat) (w : World) (oc od : Obj) (pre : List Nat) (W : World) : Prop :=
  (∃ v, Boxed W Bx 212 v ∧ W.ownsRow (Nd + 1) 3 1 v pre.length (natV pre)) ∧ Below n₀ w W ∧ W.heap[Nc]? = some oc ∧ W.heap[Nd]? = some od
theorem CutsI.own {n₀ Bx Nc Nd B : Nat} {w : World} {oc od : Obj} (hn : n₀ ≤ w.heap.size) (hB : n₀ ≤ B) (hx : Bx < B) (hc : Nc < B) (hd : Nd < B) : OwnT B 166 (CutsI n₀ Bx Nc Nd w oc od) := by
  rintro s X Y row ⟨⟨v, hv, hr⟩, hb, h1, h2⟩ hg hrow
  refine ⟨⟨v, hv.kept hg (fun e => by have := (hrow _ e.symm).1; omega), hr.kept hg ?_⟩, hb.grown hg (Nat.le_trans hn hb.size) (fun k e => by have := (hrow _ e).1; omega), (hg.block Nc (Array.getElem?_eq_some_iff.1 h1).1 (fun e => by have := (hrow _ e.symm).1; omega)).trans h1, (hg.block Nd (Array.getElem?_eq_some_iff.1 h2).1 (fun e => by have := (hrow _ e.symm).1; omega)).trans h2⟩
  rcases hr.2 with ⟨rfl, _⟩ | ⟨g, cap, cur, rfl, _, hgb, _⟩
  · exact .inl rfl
  · refine .inr fun e' => ?_
    obtain ⟨_, o, ho, hc⟩ := hrow g (by simpa [Value.ownBlock] using e'.symm)
    rw [hgb] at ho
    cases ho
    rcases hc with hc | ⟨c, f, hc⟩
    · cases hc
    · cases hc

attribute [local go_sem] Oper.semAt_some

end Go.Proofs.YtmcbnhkcjhlbaaaGreatDoor.Ck
end
section
namespace Go.Proofs.YtmcbnhkcjhlbaaaGreatDoor.Ck
open Go.Proofs.YtmcbnhkcjhlbaaaGreatDoor.Kit
namespace Kit
section
variable {P : Program} {ops : Array Oper} {md : Region.Mode} {Q : Exit → Act → World → Prop} {S : World → Prop} {L : Nat}

def anyS (P : Program) (md : Region.Mode) (ops : Array Oper) (Q : Exit → Act → World → Prop) (S : World → Prop) (L : Nat) : Nat → Array Bool → Act → World → Prop
  | 0, listed, a, w => Region.ready md ops listed = [] ∧ Q .normal a w
  | fuel + 1, listed, a, w =>
    (Region.ready md ops listed = [] → Q .normal a w) ∧
    ∀ i ∈ Region.ready md ops listed, wpOp P ops Q i (fun a' w' => (i ≠ L → S w') ∧ anyS P md ops Q S L fuel (listed.setIfInBounds i true) a' w') a w

theorem any_of_anyS : ∀ (fuel : Nat) (listed : Array Bool) (a : Act) (w : World), anyS P md ops Q S L fuel listed a w → wpAny P md ops Q fuel listed a w
  | 0, _, _, _, h => h
  | fuel + 1, _, _, _, h => ⟨h.1, fun i hi => wpOp_mono (fun a' w' h' => any_of_anyS fuel _ a' w' h'.2) (h.2 i hi)⟩

theorem anyS_first {i : Nat} {oi : Oper} {v : Value} (hi : ops[i]? = some oi) (hsel : ∀ (j : Nat) (o : Oper) cs b, ops[j]? = some o → o.op ≠ .select cs b)
    (hQ : ∀ c a w, Q (.panic c) (a.put oi.dst v) w → Q (.panic c) a w) (hL : Region.waitsFor md ops L i = true) (hiL : i ≠ L) :
    ∀ (fuel : Nat) (listed : Array Bool) (a : Act) (w : World),
      (∀ (j : Nat) (oj : Oper), ops[j]? = some oj → j ≠ i → listed.getD j true = false → (∀ e ∈ oj.after, Region.binds md e = true → e.on ≠ i) → oi.apart ops oj = true) →
      i ∈ Region.ready md ops listed → YieldsIf P ops S oi v a → S w →
      anyS P md ops Q S L fuel (listed.setIfInBounds i true) (a.put oi.dst v) w → anyS P md ops Q S L (fuel + 1) listed a w := by
  intro fuel
  induction fuel with
  | zero =>
    intro listed a w _ hr hy hS H
    refine ⟨fun h => (by rw [h] at hr; cases hr), fun j hj => ?_⟩
    by_cases hji : j = i
    · subst hji; exact hy.wpOp hi hS ⟨fun _ => hS, H⟩
    · have := ready_mono hj hji
      rw [H.1] at this
      cases this
  | succ fuel ih =>
    intro listed a w hfree hr hy hS H
    refine ⟨fun h => (by rw [h] at hr; cases hr), fun j hj => ?_⟩
    by_cases hji : j = i
    · subst hji; exact hy.wpOp hi hS ⟨fun _ => hS, H⟩
    · have h1 := H.2 j (ready_mono hj hji)
      obtain ⟨hjun, oj, hoj, hall⟩ := mem_ready.1 hj
      have hnot : ∀ e ∈ oj.after, Region.binds md e = true → e.on ≠ i := fun e he hb heq => by
        have h1 := hall e he hb
        have h0 := (mem_ready.1 hr).1
        rw [heq] at h1
        rcases Nat.lt_or_ge i listed.size with h' | h'
        · simp [h'] at h0 h1; rw [h0] at h1; cases h1
        · simp [Array.getElem?_eq_none h'] at h1
      have hjL : j ≠ L := by
        rintro rfl
        obtain ⟨o', ho', e, he, hb, hon⟩ := Region.waitsFor_spec hL
        rw [hoj] at ho'
        cases ho'
        exact hnot e he hb hon
      have h2 := wpOp_putIf hoj (hfree j oj hoj hji hjun hnot) (fun cs b => hsel i oi cs b hi) (fun cs b => hsel j oj cs b hoj) hQ hy h1
      have hfree' : ∀ (k : Nat) (ok : Oper), ops[k]? = some ok → k ≠ i → (listed.setIfInBounds j true).getD k true = false →
          (∀ e ∈ ok.after, Region.binds md e = true → e.on ≠ i) → oi.apart ops ok = true := fun k ok hk hki hun hno => by
        refine hfree k ok hk hki ?_ hno
        by_cases hjk : j = k
        · subst hjk; exact hjun
        · rw [getD_set_ne true hjk] at hun; exact hun
      refine wpOp_mono (fun a' w' h3 => ⟨h3.2.1, ih (listed.setIfInBounds j true) a' w' hfree' (ready_mono hr (Ne.symm hji)) h3.1 (h3.2.1 hjL) ?_⟩) h2
      rw [Array.setIfInBounds_comm _ _ hji]
      exact h3.2.2

def chainL (P : Program) (Q : Exit → Act → World → Prop) (S : World → Prop) (L : Nat) (l : List Oper) : List Nat → Act → World → Prop
  | [], a, w => Q .normal a w
  | i :: rest, a, w => ∃ o, l[i]? = some o ∧ o.guard = none ∧ ∀ K : Act → World → Prop, (∀ a w, (i ≠ L → S w) → chainL P Q S L l rest a w → K a w) → o.wp P a w K Q
def headsLOk (md : Region.Mode) (ops : Array Oper) (L : Nat) (tail : List Nat) : List Nat → Array Bool → Bool
  | [], listed => chainOk md ops tail listed
  | i :: rest, listed => Region.free md ops listed i && (Region.ready md ops listed).contains i && Region.waitsFor md ops L i && decide (i ≠ L) && headsLOk md ops L tail rest (listed.setIfInBounds i true)

theorem anyS_of_chain {l : List Oper} : ∀ (tail : List Nat) (listed : Array Bool) (a : Act) (w : World), chainOk md l.toArray tail listed = true → chainL P Q S L l tail a w → anyS P md l.toArray Q S L tail.length listed a w
  | [], _, _, _, hB, h => by
    simp only [chainOk, List.isEmpty_iff] at hB
    exact ⟨hB, h⟩
  | i :: rest, listed, a, w, hB, h => by
    simp only [chainOk, Bool.and_eq_true, decide_eq_true_eq] at hB
    obtain ⟨o, ho, hg, hw⟩ := h
    refine ⟨fun h0 => (by rw [hB.1] at h0; cases h0), fun j hj => ?_⟩
    rw [hB.1] at hj
    have hji : j = i := by simpa using hj
    subst hji
    have ho' : l.toArray[j]? = some o := by simpa using ho
    unfold wpOp
    rw [ho']
    show if Region.wanted o (yielded l.toArray a.tmps) = true then _ else _
    rw [if_pos (by simp [Region.wanted, hg])]
    exact .inl (hw _ fun a w hS hc => ⟨hS, anyS_of_chain rest _ a w hB.2 hc⟩)

theorem anyS_of_heads {l : List Oper} {tail : List Nat} {w : World} (hsel : Region.noSelect l.toArray = true) (hQ : ∀ c a d v w, Q (.panic c) (a.put d v) w → Q (.panic c) a w) (hS : S w) :
    ∀ (idx : List Nat) (listed : Array Bool) (a : Act), headsLOk md l.toArray L tail idx listed = true → heads P S (fun a => chainL P Q S L l tail a w) l idx a → anyS P md l.toArray Q S L (idx.length + tail.length) listed a w
  | [], listed, a, hB, h => by
    rw [List.length_nil, Nat.zero_add]
    exact anyS_of_chain tail listed a w hB h
  | i :: rest, listed, a, hB, h => by
    simp only [headsLOk, Bool.and_eq_true, decide_eq_true_eq] at hB
    obtain ⟨o, ho, v, hy, hr⟩ := h
    rw [List.length_cons, show rest.length + 1 + tail.length = rest.length + tail.length + 1 by omega]
    have ho' : l.toArray[i]? = some o := by simpa using ho
    exact anyS_first ho' (Region.noSelect_spec hsel) (fun c a w => hQ c a _ v w) hB.1.1.2 hB.1.2 _ _ _ _ (Region.free_spec ho' hB.1.1.1.1) (by simpa using hB.1.1.1.2) hy hS (anyS_of_heads hsel hQ hS rest _ _ hB.2 hr)

theorem chainL_cons {l : List Oper} {a : Act} {w : World} {i : Nat} {rest : List Nat} {o : Oper} (ho : l[i]? = some o) (hg : o.guard = none) (h : ∀ K : Act → World → Prop, (∀ a w, (i ≠ L → S w) → chainL P Q S L l rest a w → K a w) → o.wp P a w K Q) : chainL P Q S L l (i :: rest) a w := ⟨o, ho, hg, h⟩
theorem chainL_done {l : List Oper} {a : Act} {w : World} (h : Q .normal a w) : chainL P (NoPanic Q) S L l [] a w := h

theorem wpIn_region_headsL {n : Nat} {id : Nat} {a : Act} {w : World} {l : List Oper} (lr : Nat) (S : World → Prop) (L : Nat) (idx tail : List Nat) (hm : P.follows .mixedOrders = true) (hsel : Region.noSelect l.toArray = true) (hn : l.length = idx.length + tail.length)
    (hB : headsLOk .any l.toArray L tail idx (Array.replicate l.length false) = true) (hd : (l.all fun o => match o.op with | .defer _ => false | _ => true) = true) (hL : ¬ LetsOut Q) (hS : S w.drew)
    (h : heads P S (fun a => chainL P (NoPanic Q) S L l tail a w.drew) l idx a) : (Code.region id l.toArray true).wpIn (Fence.wide.inRound lr) n P Q a w := by
  refine wpIn_mono (wpIn_region_any hm (any_round (Q := NoPanic Q) lr n ?_ ?_ _ _ _ _ ?_)) NoPanic.imp
  · intro j o c hj hc
    have hj' : l[j]? = some o := by simpa using hj
    have := List.all_eq_true.1 hd o (List.mem_of_getElem? hj')
    rw [hc] at this
    cases this
  · rintro ⟨a, w, h⟩
    exact hL ⟨a, w, h⟩
  · refine any_of_anyS _ _ _ _ (S := S) (L := L) ?_
    have H := anyS_of_heads hsel (fun _ _ _ _ _ h => h) hS idx _ _ hB h
    rw [← hn] at H
    have e : l.toArray.size = l.length := List.size_toArray
    rw [e]
    exact H
end
end Kit
end Go.Proofs.YtmcbnhkcjhlbaaaGreatDoor.Ck
end
