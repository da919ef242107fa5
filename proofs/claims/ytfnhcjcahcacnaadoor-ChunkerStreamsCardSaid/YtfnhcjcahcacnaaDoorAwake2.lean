/- The contract of kinkeeplaw16.awake: the chapter's examples. -/
import Derived.Test.YtfnhcjcahcacnaaDoorExt
namespace Go.Proofs.YtfnhcjcahcacnaaDoor
open Go.RowKit
open Roll (u)
open Kit (Chg)
open Chk

def exC : Cut := ⟨2, 3, 1, 0, 0⟩
theorem exC_ok : exC.Ok := ⟨by decide, by decide, by decide, by decide, by decide, by decide⟩
theorem ex_cuts : cuts exC (List.replicate 8 0) = [1, 4, 7, 8] := by kernel_rfl
theorem ex_chunks : chunksFrom exC (List.replicate 5 0) 0 5 = [[0], [0, 0, 0]] := by kernel_rfl
theorem ex_start : startS exC (List.replicate 5 0) 5 = 4 := by kernel_rfl

theorem zeros_at {w : World} {N n : Nat} (h : w.heap[N]? = some (.cells (Array.replicate n (.int .u8 0)) 5 (0, 0))) (hn : n ≤ 100) : BytesAt w (some ⟨N, 0, none⟩) (List.replicate n 0) := by
  refine ⟨.inr ⟨N, 0, rfl, fun i hi => ?_⟩, fun x hx => by rw [List.mem_replicate] at hx; omega, by rw [List.length_replicate]; unfold maxLen; omega⟩
  rw [List.length_replicate] at hi
  rw [Nat.zero_add, cell_of_row _ _ _ _ _ _ h]
  simp [hi, List.getD]

theorem ex_cuts_any (g : Nat) (w : World) (h : BytesAt w (some ⟨g, 0, none⟩) (List.replicate 8 0)) (hT : TabAt 0 Lib.deBruijn64tab w) :
    Calls Tryd.prog 50 #[.agg #[.int .i64 2, .int .i64 3, .int .i64 1, .int .i64 0, .int .u64 0], .slice (some ⟨g, 0, none⟩) 8 8] w fun e w' =>
      ∃ a cap, e = .returned (.tuple #[.slice a 4 cap, .int .i64 0]) ∧ IntsAt w' a [1, 4, 7, 8] ∧ Below w.heap.size w w' := by
  refine (cuts_any exC exC_ok (some ⟨g, 0, none⟩) 8 (List.replicate 8 0) (by decide) w h hT).mono ?_
  rintro e w' ⟨v, rfl, ho, hb⟩
  rw [ex_cuts] at ho
  obtain ⟨_, a, cap, rfl, _, _, hi, _⟩ := ints_of_own ho
  exact ⟨a, cap, rfl, hi, hb⟩
theorem ex_reach_any (w : World) : Calls Tryd.prog 46 #[.agg #[.int .i64 2, .int .i64 3, .int .i64 1, .int .i64 0, .int .u64 0], .int .i64 5, .int .i64 6] w fun e w' =>
    e = .returned (.tuple #[.int .i64 6, .int .i64 7, .int .i64 0]) ∧ Below w.heap.size w w' := by
  refine (reach_any 2 3 1 0 0 5 6 w).mono ?_
  rintro e w' ⟨rfl, hb⟩
  exact ⟨by rfl, hb⟩
theorem ex_new_any (w : World) (hw : 0 < w.heap.size) : Calls Tryd.prog 41 #[.agg #[.int .i64 2, .int .i64 3, .int .i64 1, .int .i64 0, .int .u64 0]] w fun e w' =>
    ∃ b, e = .returned (.tuple #[.pointer (some ⟨b, 0, none⟩), .int .i64 0]) ∧ w.heap.size ≤ b ∧ b < w'.heap.size ∧ ChrAt w' w.heap.size b exC [] (.slice none 0 0) ∧ Below w.heap.size w w' := new_ok exC exC_ok w hw
theorem ex_ints_any (a : Option Addr) (cap g : Nat) (w : World) (h : IntsAt w a [1, 4, 7, 8]) (h' : w.heap[g]? = some (.cells #[.int .i64 1, .int .i64 4, .int .i64 7, .int .i64 8] 3 (0, 0))) :
    Calls Tryd.prog 49 #[.slice a 4 cap, .slice (some ⟨g, 0, none⟩) 4 4] w fun e w' => e = .returned (.bool true) ∧ Below w.heap.size w w' := by
  refine (ints_any a (some ⟨g, 0, none⟩) cap 4 [1, 4, 7, 8] [1, 4, 7, 8] (by decide) (by decide) w h ?_).mono ?_
  · refine .inr ⟨g, 0, rfl, fun i hi => ?_⟩
    rw [Nat.zero_add, cell_of_row _ _ _ _ _ _ h']
    match i, hi with
    | 0, _ => rfl
    | 1, _ => rfl
    | 2, _ => rfl
    | 3, _ => rfl
  · rintro e w' ⟨rfl, hb⟩
    exact ⟨by rfl, hb⟩
theorem chr_later {w w' : World} {B0 b : Nat} {c : Cut} {ps : List Nat} {bv : Value} (h : ChrAt w B0 b c ps bv) (hb : Below w.heap.size w w') : ChrAt w' B0 b c ps bv := by
  have hc : Chg (fun _ _ => False) w w' := Chg.of_below hb
  obtain ⟨cc, f, ht⟩ := h.type
  exact ⟨h.mark.keep hc fun _ _ h => h, hc.cell h.buf fun h => h, (hc.frozen h.buf ⟨0, fun h => h⟩ 331).trans h.free, ownsRow_keepM h.row hc fun _ _ _ h => h, h.bytes, ⟨cc, f, (hb.block b (Array.getElem?_eq_some_iff.1 ht).1).trans ht⟩⟩
theorem ex_push_any (B0 b g : Nat) (w : World) (h : ChrAt w B0 b exC [] (.slice none 0 0)) (hB0 : B0 ≤ w.heap.size) (hbB : B0 ≤ b) (hx : BytesAt w (some ⟨g, 0, none⟩) (List.replicate 5 0)) (hg : g ≠ b) (hT : TabAt 0 Lib.deBruijn64tab w) (hpos : 0 < B0) :
    Calls Tryd.prog 42 #[.pointer (some ⟨b, 0, none⟩), .slice (some ⟨g, 0, none⟩) 5 5] w fun e w' => ∃ g' cap', e = .returned (.slice (some ⟨g', 0, none⟩) 2 cap') ∧
      (∃ a c, w'.cell? ⟨g', 0, none⟩ = some (.slice a 1 c)) ∧ (∃ a c, w'.cell? ⟨g', 1, none⟩ = some (.slice a 3 c)) ∧ (∃ a c, w'.cell? ⟨b, 331, none⟩ = some (.slice a 1 c)) ∧ Below B0 w w' := by
  refine (chrPush_any B0 b exC exC_ok [] (List.replicate 5 0) (.slice none 0 0) (some ⟨g, 0, none⟩) 5 (by decide) w h hB0 hbB hx (fun ad e => by cases e; exact ⟨hg, by simp [Value.ownBlock]⟩) hT hpos).mono ?_
  rintro e w' ⟨v, rfl, ⟨⟨bv, rows, hA, hO, _⟩, hc⟩⟩
  have hcs : chunksFrom exC ([] ++ List.replicate 5 0) ([] : List Nat).length (List.replicate 5 0).length = [[0], [0, 0, 0]] := ex_chunks
  rw [hcs] at hO
  obtain ⟨hn, a, cap, rfl, _, _, hl, _⟩ := lists_of_own hO.own hO.are
  obtain ⟨g', o, rfl, hcell⟩ := hl.some (by decide)
  have hr := hO.own
  obtain ⟨g'', cap'', hv⟩ := ownsRow_succ (k := 1) (by rw [hn] at hr; exact hr)
  cases hv
  obtain ⟨a0, c0, h0, _⟩ := hcell 0 (by decide)
  obtain ⟨a1, c1, h1, _⟩ := hcell 1 (by decide)
  have hb := hA.row
  have e1 : startS exC (List.take (([] : List Nat).length + (List.replicate 5 0).length) ([] ++ List.replicate 5 0)) (List.take (([] : List Nat).length + (List.replicate 5 0).length) ([] ++ List.replicate 5 0)).length = 4 := ex_start
  rw [e1] at hb
  obtain ⟨g3, cap3, hv3⟩ := ownsRow_succ (k := 0) hb
  refine ⟨g', cap, rfl, ⟨a0, c0, h0⟩, ⟨a1, c1, h1⟩, ⟨some ⟨g3, 0, none⟩, cap3, ?_⟩, hc.below hB0 fun k i hk hm => ?_⟩
  · rw [hA.buf, hv3]
  · rcases hm with (hm | hm) | hm
    · omega
    · simp [Value.ownBlock] at hm
    · omega

set_option maxRecDepth 100000 in
set_option maxHeartbeats 1000000 in
theorem awake16 (w : World) (hT : TabAt 0 Lib.deBruijn64tab w) :
    Calls Tryd.prog 40 #[] w fun e w' => e = .returned (.bool true) ∧ Below w.heap.size w w' := by
  have HT := Lib.hid hT
  have hpos := tabAt_size hT
  clear hT
  go_enter Tryd.func40, Tryd.ntmps40
  go_upto_region 2 with fail
  refine wp_over (fun V => Hid (V.heap[w.heap.size]? = some (.cells #[.int .i64 2, .int .i64 3, .int .i64 1, .int .i64 0, .int .u64 0] 48 (0, 0))) ∧ Hid (Below w.heap.size w V)) ⟨heap_alloc_new _ _, (Below.refl _ _).alloc (Nat.le_refl _) _⟩ ?_
  rintro V ⟨HC, HB⟩
  generalize hN : w.heap.size = N at *
  have HN := Lib.hid hN
  clear hN
  have hc : ∀ i, V.cell? ⟨N, i, none⟩ = (#[.int .i64 2, .int .i64 3, .int .i64 1, .int .i64 0, .int .u64 0] : Array Value)[i]? := fun i => cell_of_row _ _ _ _ _ _ HC.out
  have hNV : N < V.heap.size := (Array.getElem?_eq_some_iff.1 HC.out).1
  have c0 := hc 0
  have c1 := hc 1
  have c2 := hc 2
  have c3 := hc 3
  have c4 := hc 4
  clear hc
  have HTV := Lib.hid (tabAt_below HT.out HB.out hpos)
  have hmk : ∀ w, (Instr.makeSlice 28 (.int .i64 8) (.int .i64 8)).run Tryd.prog w = .ok (.slice (some ⟨w.heap.size, 0, none⟩) 8 8) (w.alloc (.cells (Array.replicate 8 (.int .u8 0)) 5)) := fun _ => by kernel_rfl
  have HZ8 : Hid (BytesAt (V.drew.alloc (.cells (Array.replicate 8 (.int .u8 0)) 5)) (some ⟨V.heap.size, 0, none⟩) (List.replicate 8 0)) := zeros_at (heap_alloc_new V.drew _) (by decide)
  have HT8 := Lib.hid (tabAt_below HTV.out (((Below.refl V.heap.size V).drew).alloc (Nat.le_refl _) (.cells (Array.replicate 8 (.int .u8 0)) 5)) (by omega))
  go_region_held3 (fun w' => w'.cell? ⟨N, 0, none⟩ = some (.int .i64 2) ∧ w'.cell? ⟨N, 1, none⟩ = some (.int .i64 3) ∧ w'.cell? ⟨N, 2, none⟩ = some (.int .i64 1) ∧ w'.cell? ⟨N, 3, none⟩ = some (.int .i64 0) ∧ w'.cell? ⟨N, 4, none⟩ = some (.int .u64 0)) (go_keep)
    (first | (go_at_call 50; refine (ex_cuts_any V.heap.size (V.drew.alloc (.cells (Array.replicate 8 (.int .u8 0)) 5)) HZ8.out HT8.out).mono ?_; rintro e w3 ⟨a3, cap3, rfl, hi3, hb3⟩; have HI3 := Lib.hid hi3; have HB3 := Lib.hid ((((Below.refl V.heap.size V).drew).alloc (Nat.le_refl _) (.cells (Array.replicate 8 (.int .u8 0)) 5)).trans (hb3.mono (by simp))); have d0 := (HB3.out.cell (p := ⟨N, 0, none⟩) hNV).trans c0; have d1 := (HB3.out.cell (p := ⟨N, 1, none⟩) hNV).trans c1; have d2 := (HB3.out.cell (p := ⟨N, 2, none⟩) hNV).trans c2; have d3 := (HB3.out.cell (p := ⟨N, 3, none⟩) hNV).trans c3; have d4 := (HB3.out.cell (p := ⟨N, 4, none⟩) hNV).trans c4; clear hi3 hb3))
  have HBN3 : Hid (Below N w w3) := HB.out.trans (HB3.out.mono (by omega))
  have hN3 : N < w3.heap.size := Nat.lt_of_lt_of_le hNV HB3.out.size
  clear c0 c1 c2 c3 c4 HZ8 HT8 hmk
  go_wp2_with fail
  refine (ex_reach_any w3).mono ?_
  rintro e w4 ⟨rfl, hb4⟩
  have HB4 := Lib.hid hb4
  have c0 := (hb4.cell (p := ⟨N, 0, none⟩) hN3).trans d0
  have c1 := (hb4.cell (p := ⟨N, 1, none⟩) hN3).trans d1
  have c2 := (hb4.cell (p := ⟨N, 2, none⟩) hN3).trans d2
  have c3 := (hb4.cell (p := ⟨N, 3, none⟩) hN3).trans d3
  have c4 := (hb4.cell (p := ⟨N, 4, none⟩) hN3).trans d4
  have hN4 : N < w4.heap.size := Nat.lt_of_lt_of_le hN3 hb4.size
  have HBN4 : Hid (Below N w w4) := HBN3.out.trans (hb4.mono (by omega))
  have HI4 : Hid (IntsAt w4 a3 [1, 4, 7, 8]) := HI3.out.later hb4
  clear hb4 d0 d1 d2 d3 d4
  go_wp2_with fail
  refine (ex_new_any w4 (by omega)).mono ?_
  rintro e w5 ⟨b, rfl, hb1, hb2, hA, hb5⟩
  have HA := Lib.hid hA
  have HBN5 : Hid (Below N w w5) := HBN4.out.trans (hb5.mono (by omega))
  have HI5 : Hid (IntsAt w5 a3 [1, 4, 7, 8]) := HI4.out.later hb5
  have h45 := hb5.size
  clear hA hb5 c0 c1 c2 c3 c4
  go_wp2_with fail
  refine (ex_ints_any a3 cap3 w5.heap.size _ (HI5.out.later ((Below.refl _ _).alloc (Nat.le_refl _) _)) (heap_alloc_new _ _)).mono ?_
  rintro e w6 ⟨rfl, hb6⟩
  have HB56 := Lib.hid (((Below.refl w5.heap.size w5).alloc (Nat.le_refl _) (.cells #[.int .i64 1, .int .i64 4, .int .i64 7, .int .i64 8] 3)).trans (hb6.mono (by simp)))
  have h56 := HB56.out.size
  clear hb6
  have HBN6 : Hid (Below N w w6) := HBN5.out.trans (HB56.out.mono (by omega))
  have hmk : ∀ w, (Instr.makeSlice 28 (.int .i64 5) (.int .i64 5)).run Tryd.prog w = .ok (.slice (some ⟨w.heap.size, 0, none⟩) 5 5) (w.alloc (.cells (Array.replicate 5 (.int .u8 0)) 5)) := fun _ => by kernel_rfl
  go_wp2_with fail
  have HA6 : Hid (ChrAt (w6.alloc (.cells (Array.replicate 5 (.int .u8 0)) 5)) w4.heap.size b exC [] (.slice none 0 0)) := chr_later HA.out (HB56.out.trans ((Below.refl w6.heap.size w6).alloc (Nat.le_refl _) _ |>.mono (by omega)))
  refine (ex_push_any w4.heap.size b w6.heap.size _ HA6.out (by simp; omega) hb1 (zeros_at (heap_alloc_new _ _) (by decide)) (by omega) (tabAt_below HT.out (HBN6.out.alloc (by omega) _) (by omega)) (by omega)).mono ?_
  rintro e w7 ⟨g', cap', rfl, ⟨a0, e0, h0⟩, ⟨a1, e1, h1⟩, ⟨a2, e2, h2⟩, hb7⟩
  have HB7 : Hid (Below N w w7) := (HBN6.out.alloc (by omega) (.cells (Array.replicate 5 (.int .u8 0)) 5)).trans (hb7.mono (by omega))
  clear hb7 hmk
  go_wp2_with fail
  refine (held_any w7 b a2 1 e2 h2).mono ?_
  rintro e w8 ⟨rfl, rfl⟩
  go_wp2_with fail
  go_ret
  exact ⟨rfl, by rw [HN.out]; exact HB7.out⟩
end Go.Proofs.YtfnhcjcahcacnaaDoor
