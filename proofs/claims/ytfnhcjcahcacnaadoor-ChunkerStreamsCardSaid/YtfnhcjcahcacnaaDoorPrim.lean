/- The contract of chunker.Primary. -/
import Derived.Test.YtfnhcjcahcacnaaDoorVal
import Derived.Test.YtfnhcjcahcacnaaDoorApp
namespace Go.Proofs.YtfnhcjcahcacnaaDoor
open Go.RowKit
open Roll (u)
open Kit (Chg)
open Chk

/-- Numbers as the values of cells. -/
def natV (zs : List Nat) : List Value := zs.map fun (z : Nat) => Value.int .i64 (z : Int)
theorem natV_length (zs : List Nat) : (natV zs).length = zs.length := by simp [natV]
theorem natV_snoc (zs : List Nat) (k : Nat) : natV (zs ++ [k + 1]) = natV zs ++ [.int .i64 ((k : Int) + 1)] := by simp [natV]
theorem natV_get (zs : List Nat) (i : Nat) (h : i < zs.length) : (natV zs)[i]? = some (.int .i64 ((zs.getD i 0 : Nat) : Int)) := by simp [natV, h]

/-- The numbers zs lie at a: the elements of a slice of numbers. -/
def IntsAt (w : World) (a : Option Addr) (zs : List Nat) : Prop :=
  zs = [] ∨ ∃ b o, a = some ⟨b, o, none⟩ ∧ ∀ i, i < zs.length → w.cell? ⟨b, o + i, none⟩ = some (.int .i64 ((zs.getD i 0 : Nat) : Int))
theorem IntsAt.later {w w' : World} {a : Option Addr} {zs : List Nat} (h : IntsAt w a zs) (hb : Below w.heap.size w w') : IntsAt w' a zs := by
  rcases h with e | ⟨b, o, e, hc⟩
  · exact .inl e
  · exact .inr ⟨b, o, e, fun i hi => (hb.cell (p := ⟨b, o + i, none⟩) (World.block_lt_of_cell? w _ (hc i hi))).trans (hc i hi)⟩
theorem ints_of_own {w : World} {base n : Nat} {v : Value} {zs : List Nat} (h : w.ownsRow base 3 1 v n (natV zs)) : n = zs.length ∧ ∃ a cap, v = .slice a zs.length cap ∧ zs.length ≤ cap ∧ cap ≤ maxLen ∧ IntsAt w a zs ∧ (a = none → cap = 0) := by
  obtain ⟨hl, hv⟩ := h
  rw [natV_length, Nat.mul_one] at hl
  subst hl
  refine ⟨rfl, ?_⟩
  rcases hv with ⟨rfl, h0⟩ | ⟨g, cap, cur, rfl, _, hg, hnc, hcm, hcs, htake⟩
  · exact ⟨none, 0, by rw [h0], by omega, Nat.zero_le _, .inl (List.eq_nil_of_length_eq_zero h0), fun _ => rfl⟩
  · refine ⟨some ⟨g, 0, none⟩, cap, rfl, hnc, hcm, .inr ⟨g, 0, rfl, fun i hi => ?_⟩, fun e => by cases e⟩
    rw [Nat.zero_add, cell_of_row _ _ _ _ _ _ hg]
    have h1 := natV_get zs i hi
    rw [← htake, Nat.mul_one, List.getElem?_take_of_lt hi] at h1
    simpa using h1

theorem wpList_store81 {ops : Array Oper} {rest : List Oper} {o : Oper} {a : Act} {w : World} {Q : Exit → Act → World → Prop} (hgd : o.guard = none) (x y : Operand) (ho : o.op = .store 81 x y) (g : Nat) (R old : Array Value) (hR : R.size = 331) (h1 : R.all (·.oneCell') = true)
    (hx : a.eval x = .pointer (some ⟨g, 0, none⟩)) (hy : a.eval y = .agg R) (hg : w.heap[g]? = some (.cells old 81 (0, 0))) (hold : old.size = 331) (h : wpList Tryd.prog ops Q rest (a.put o.dst undef) (w.setRow g R)) : wpList Tryd.prog ops Q (o :: rest) a w :=
  wpList_plain hgd fun _ hK => store81 x y ho g R old hR h1 hx hy hg hold (hK _ _ h)

theorem Tryd.info3 : (Tryd.prog.info? 3).map (fun i => (i.zero, i.size, i.bytes)) = some (some (.int .i64 0), 1, 8) := by kernel_rfl

theorem check_ok1 (c : Cut) (hk : validB c.mn c.mx c.win c.bits = true) (B : Nat) (a : Option Addr) (n m : Nat) (hn : n ≤ 1048576) (w : World) (h : w.cell? ⟨B, 0, none⟩ = some (.slice a n m)) :
    Calls Tryd.prog 63 #[.agg #[.int .i64 c.mn, .int .i64 c.mx, .int .i64 c.win, .int .i64 c.bits, .int .u64 (u c.seed)], .slice (some ⟨B, 0, none⟩) 1 1] w fun e w' => e = .returned (.int .i64 0) ∧ Below w.heap.size w w' :=
  check_ok c.mn c.mx c.win c.bits c.seed B 1 [(a, n, m)] (by simp) (by simpa using hn) hk w (fun i hi => by
    have : i = 0 := by simpa using hi
    subst this; exact h)
theorem valid_of {c : Cut} (h : c.Ok) : validB c.mn c.mx c.win c.bits = true := by
  have := h.win1; have := h.win64; have := h.mn; have := h.mx; have := h.most; have := h.bits
  unfold validB; rw [decide_eq_true_eq]; omega
theorem newMarker_ok (c : Cut) (hk : c.Ok) (w : World) :
    Calls Tryd.prog 59 #[.agg #[.int .i64 c.mn, .int .i64 c.mx, .int .i64 c.win, .int .i64 c.bits, .int .u64 (u c.seed)]] w fun e w' => e = .returned (.agg (markRow c.mn c.mx c.win c.bits c.seed)) ∧ Below w.heap.size w w' :=
  newMarker_any c.mn c.mx c.win c.bits c.seed (by have := hk.win1; omega) (by have := hk.win64; omega) (by omega) (by have := hk.mx; have := hk.most; omega) w

/-- What has been done behind k bytes. -/
def PrimRel (w : World) (M : Nat) (c : Cut) (ds : List Nat) (v i : Value) (wr : World) : Prop :=
  ∃ k : Nat, k ≤ ds.length ∧ i = .int .i64 k ∧ MarkAt wr M c (ds.take k) ∧ Below w.heap.size w wr ∧ wr.ownsRow (M + 1) 3 1 v (primTo c ds k).length (natV (primTo c ds k))
theorem primTo_length (c : Cut) (ds : List Nat) : ∀ k, (primTo c ds k).length ≤ k
  | 0 => Nat.le_refl _
  | k + 1 => by
    have := primTo_length c ds k
    rw [primTo, List.length_append]
    split <;> simp <;> omega
theorem take_snoc (ds : List Nat) (k : Nat) (h : k < ds.length) : ds.take k ++ [ds.getD k 0] = ds.take (k + 1) := by
  rw [List.take_succ_eq_append_getElem h, List.getD_eq_getElem?_getD, List.getElem?_eq_getElem h, Option.getD_some]

theorem step_at (b : Nat) (c : Cut) (hk : c.Ok) (ds : List Nat) (k : Nat) (hlt : k < ds.length) (x : Nat) (hxe : x = ds.getD k 0) (hx : x < 256) (hl : ds.length ≤ 1000000000) (w : World) (h : MarkAt w b c (ds.take k)) (hT : TabAt 0 Lib.deBruijn64tab w) :
    Calls Tryd.prog 60 #[.pointer (some ⟨b, 0, none⟩), .int .u8 x] w fun e w' => e = .returned (.bool (prim c ds (k + 1))) ∧ MarkAt w' b c (ds.take (k + 1)) ∧ Chg (markCells b) w w' := by
  have e1 : (ds.take k).length = k := by rw [List.length_take]; omega
  have := step_any b c hk (ds.take k) x hx (by omega) w h hT
  rw [hxe, take_snoc ds k hlt, e1, prim_take c ds _ _ (Nat.le_refl _)] at this
  rw [hxe]
  exact this

theorem ownsRow_base {w : World} {base base' e size n : Nat} {v : Value} {xs : List Value} (h : w.ownsRow base e size v n xs) (hb : base' ≤ base) : w.ownsRow base' e size v n xs := by
  refine ⟨h.1, ?_⟩
  rcases h.2 with hn | ⟨g, cap, cur, rfl, hg, r⟩
  · exact .inl hn
  · exact .inr ⟨g, cap, cur, rfl, Nat.le_trans hb hg, r⟩

set_option maxRecDepth 100000 in
set_option maxHeartbeats 800000 in
theorem primary_any (c : Cut) (hk : c.Ok) (a : Option Addr) (cap : Nat) (ds : List Nat) (hl : ds.length ≤ 1000000) (w : World) (h : BytesAt w a ds) (hT : TabAt 0 Lib.deBruijn64tab w) :
    Calls Tryd.prog 48 #[.agg #[.int .i64 c.mn, .int .i64 c.mx, .int .i64 c.win, .int .i64 c.bits, .int .u64 (u c.seed)], .slice a ds.length cap] w fun e w' =>
      ∃ v, e = .returned (.tuple #[v, .int .i64 0]) ∧ w'.ownsRow w.heap.size 3 1 v (primTo c ds ds.length).length (natV (primTo c ds ds.length)) ∧ Below w.heap.size w w' := by
  have HH := Lib.hid h
  have HT := Lib.hid hT
  have HK := Lib.hid hk
  clear h hT hk
  go_enter Tryd.func48, Tryd.ntmps48
  go_wp2_with fail
  refine (check_ok1 c (valid_of HK.out) _ a ds.length cap (by omega) _ (by rw [cell_of_row _ _ _ _ _ _ (heap_alloc2_new _ _ _)]; rfl)).mono ?_
  rintro e w1 ⟨rfl, hb1⟩
  have HB1 := Lib.hid ((((Below.refl w.heap.size w).alloc (Nat.le_refl _) _).alloc (by simp) _).trans (hb1.mono (by simp only [World.size_alloc]; omega)))
  have hc : ∀ i, w1.cell? ⟨w.heap.size, i, none⟩ = (#[.int .i64 c.mn, .int .i64 c.mx, .int .i64 c.win, .int .i64 c.bits, .int .u64 (u c.seed)] : Array Value)[i]? := fun i =>
    (hb1.cell (p := ⟨w.heap.size, i, none⟩) (by simp only [World.size_alloc]; omega)).trans (by rw [cell_of_row _ _ _ _ _ _ (heap_alloc2_old _ _ _)])
  have HS1 := Lib.hid (show w.heap.size + 2 ≤ w1.heap.size by have := hb1.size; simpa using this)
  have c0 := hc 0
  have c1 := hc 1
  have c2 := hc 2
  have c3 := hc 3
  have c4 := hc 4
  clear hb1 hc
  go_wp2_with fail
  refine (newMarker_ok c HK.out w1).mono ?_
  rintro e w2 ⟨rfl, hb2⟩
  have HB2 := Lib.hid (HB1.out.trans (hb2.mono HB1.out.size))
  have HS2 := Lib.hid (Nat.le_trans HS1.out hb2.size)
  clear hb2 c0 c1 c2 c3 c4
  go_wp2_with (refine wpList_store81 rfl (.tmp 8) (.tmp 19) (by rfl) w2.heap.size (markRow c.mn c.mx c.win c.bits c.seed) Tryd.zeroCells81 (markRow_size _ _ _ _ _) (markRow_one _ _ _ _ _) (by rfl) (by rfl) (heap_alloc_new _ _) Tryd.zcells81 ?_)
  refine wp_over (fun W => Hid (MarkAt W w2.heap.size c []) ∧ Hid (Below w.heap.size w W) ∧ Hid (w2.heap.size < W.heap.size)) ⟨?_, ?_, ?_⟩ ?_
  · have hg := setRow_heap (w2.alloc (.cells Tryd.zeroCells81 81)) w2.heap.size _ (markRow c.mn c.mx c.win c.bits c.seed) 81 (0, 0) (heap_alloc_new _ _)
    exact mark_new c HK.out _ _ 81 [] (by have := HS2.out; omega) (by simpa using hg)
  · exact below_setRow (HB2.out.trans ((Below.refl w.heap.size w2).alloc HB2.out.size _)) HB2.out.size _
  · show _ < _; simp
  rintro W ⟨HM, HB, HS⟩
  generalize hMM : w2.heap.size = M at *
  have hMw : Hid (w.heap.size ≤ M) := by have := HS2.out; show _ ≤ _; omega
  clear hMM HS2 HB2 HS1 HB1
  obtain ⟨i0, hi, hz0, hz1, hz2⟩ := info_parts Tryd.info3
  have HI := Lib.hid hi
  have HZ0 := Lib.hid hz0
  have HZ1 := Lib.hid hz1
  have HZ2 := Lib.hid hz2
  clear hi hz0 hz1 hz2
  go_loopw [7, 22] (fun v i wr => PrimRel w M c ds v i wr) (fun _ i _ => ds.length - (intOf i).toNat)
  case atStart => exact ⟨0, Nat.zero_le _, rfl, HM.out, HB.out, World.ownsRow_nil _ _ _ _⟩
  case round =>
    obtain ⟨k, hk, rfl, hm, hb, hown⟩ := hrel
    have HMk := Lib.hid hm
    have HBk := Lib.hid hb
    have HOk := Lib.hid hown
    clear hm hb hown
    by_cases hlt : k < ds.length
    · have hbr := HH.out.later HBk.out
      obtain ⟨b, o, rfl, hc⟩ := hbr.some (by omega)
      have hck := hc k hlt
      have hx := HH.out.getD_lt k hlt
      have HT2 := Lib.hid (tabAt_below HT.out HBk.out (tabAt_size HT.out))
      clear hc hbr
      obtain ⟨x, hxe⟩ : ∃ x, x = ds.getD k 0 := ⟨_, rfl⟩
      rw [← hxe] at hck hx
      have HX := Lib.hid hxe
      clear hxe
      go_wp2_with fail
      refine (step_at M c HK.out ds k hlt x HX.out hx (by omega) _ HMk.out HT2.out).mono ?_
      rintro e w3 ⟨rfl, hm3, hc3⟩
      have HM3 := Lib.hid hm3
      have HB3 := Lib.hid (HBk.out.trans (hc3.below HBk.out.size (fun b i hb hi => by have := hi.1; have := hMw.out; omega)))
      have HO3 := Lib.hid (ownsRow_keep HOk.out hc3 (fun g hg i hi => by have := hi.1; omega))
      have hlen := primTo_length c ds k
      have hsz3 := World.block_lt_of_cell? w3 _ hm3.pos
      clear hm3 hc3
      cases hp : prim c ds (k + 1) with
      | true =>
        have HP := Lib.hid (primTo_yes hp)
        clear hp
        go_wp2_with (at_builtin; refine wpList_append_own _ rfl _ _ 57 rfl (M + 1) 3 i0 (.int .i64 0) 1 8 Tryd.underlying57 HI.out HZ0.out HZ1.out HZ2.out rfl (by decide) _ _ _ rfl (HO3.out.alloc _) ⟨w3.heap.size, 0, none⟩ 1 1 [.int .i64 ((k : Int) + 1)] rfl rfl ?c1 ?c2 ?c3 ?c4 ?c5 ?_)
        case c1 => exact cell_one_new _ _ _
        case c2 => simp [Value.oneCell']
        case c3 => unfold maxLen; omega
        case c4 => omega
        case c5 => simp; omega
        intro v' w4 hown4 hgr4 _
        have HM4 := Lib.hid ((HM3.out.keep (Chg.alloc1 (M := fun _ _ => False) w3 _) (fun i hi h => h)).keep (Chg.of_grown (M := fun g _ => M + 1 ≤ g) hgr4 (fun g _ e => (HO3.out.lt g e).1)) (fun i hi h => by omega))
        have HB4 : Hid (Below w.heap.size w w4) := HB3.out.trans (((Chg.alloc1 (M := fun g _ => M + 1 ≤ g) w3 _).trans (Chg.of_grown hgr4 (fun g _ e => (HO3.out.lt g e).1))).below HB3.out.size (fun g i hg hi => by have := hMw.out; omega))
        have HO4 := Lib.hid hown4
        clear hown4 hgr4
        go_wp2
        go_roundw
        case rel => exact ⟨k + 1, by omega, by go_num, HM4.out, HB4.out, by rw [HP.out, natV_snoc, List.length_append]; exact HO4.out⟩
        case measure => simp [intOf]; omega
      | false =>
        have HP := Lib.hid (primTo_no hp)
        clear hp
        go_wp2
        go_roundw
        case rel => exact ⟨k + 1, by omega, by go_num, HM3.out, HB3.out, by rw [HP.out]; exact HO3.out⟩
        case measure => simp [intOf]; omega
    · have e : k = ds.length := by omega
      subst e
      go_wp2_with fail
      go_ret2
      exact ⟨_, rfl, ownsRow_base HOk.out (by have := hMw.out; omega), HBk.out⟩
end Go.Proofs.YtfnhcjcahcacnaaDoor
