/- Texts Proc of the proof, each as a section; no premises beyond those that each theorem states. -/
import Derived.StillTailTactics
import Derived.Deep.Cut
import Derived.Deep.QuietTactic
import Derived.Test.YtmcbnhkcjhlbaaaGreatDoorP00
set_option linter.unusedVariables false
set_option linter.unusedSimpArgs false
namespace Go.Proofs.YtmcbnhkcjhlbaaaGreatDoor
open Go.RowKit
open Kit (Chg)
open Sha (v)

def KonAt (w : World) : Prop := ∀ t, t < 64 → w.cell? ⟨1, t, none⟩ = some (.int .u32 (v (Sha.kon t)))
structure WAt (w : World) (N : Nat) (xs : List Nat) (k : Nat) : Prop where
  done : ∀ i, i < k → w.cell? ⟨N, i, none⟩ = some (.int .u32 (v ((Sha.sched xs 64).getD i 0)))
  cell : ∀ i, i < 64 → ∃ y, w.cell? ⟨N, i, none⟩ = some y
  free : ∀ i, i < 64 → w.frozen? ⟨N, i, none⟩ = false
def WordsAt (w : World) (b o : Nat) (s : Sha.St) : Prop := ∀ i, i < 8 → w.cell? ⟨b, o + i, none⟩ = some (.int .u32 (v (s.list.getD i 0)))

theorem WordsAt.later {w w' : World} {b o : Nat} {s : Sha.St} (h : WordsAt w b o s) (hb : Below w.heap.size w w') : WordsAt w' b o s := fun i hi => (hb.cell (p := ⟨b, o + i, none⟩) (World.block_lt_of_cell? w _ (h i hi))).trans (h i hi)
theorem WAt.later {w w' : World} {N : Nat} {xs : List Nat} {k : Nat} (h : WAt w N xs k) (hb : Below w.heap.size w w') : WAt w' N xs k := by
  refine ⟨fun i hi => (hb.cell (p := ⟨N, i, none⟩) (World.block_lt_of_cell? w _ (h.done i hi))).trans (h.done i hi), fun i hi => ?_, fun i hi => ?_⟩
  · obtain ⟨y, hy⟩ := h.cell i hi
    exact ⟨y, (hb.cell (p := ⟨N, i, none⟩) (World.block_lt_of_cell? w _ hy)).trans hy⟩
  · obtain ⟨y, hy⟩ := h.cell i hi
    exact (hb.frozen (p := ⟨N, i, none⟩) (World.block_lt_of_cell? w _ hy)).trans (h.free i hi)
def RndRel (xs : List Nat) (s : Sha.St) (k : Nat) (a b c d e f g h : Value) : Prop :=
  a = .int .u32 (v (Sha.rounds xs s k).a) ∧ b = .int .u32 (v (Sha.rounds xs s k).b) ∧ c = .int .u32 (v (Sha.rounds xs s k).c) ∧ d = .int .u32 (v (Sha.rounds xs s k).d) ∧
  e = .int .u32 (v (Sha.rounds xs s k).e) ∧ f = .int .u32 (v (Sha.rounds xs s k).f) ∧ g = .int .u32 (v (Sha.rounds xs s k).g) ∧ h = .int .u32 (v (Sha.rounds xs s k).h)
structure FinAt (w : World) (b o : Nat) (t : Sha.St) (k : Nat) : Prop where
  done : ∀ i, i < k → w.cell? ⟨b, o + i, none⟩ = some (.int .u32 (v (t.list.getD i 0)))
  cell : ∀ i, i < 8 → ∃ y, w.cell? ⟨b, o + i, none⟩ = some y
  free : ∀ i, i < 8 → w.frozen? ⟨b, o + i, none⟩ = false
theorem FinAt.step {w : World} {b o : Nat} {t : Sha.St} {k : Nat} {y : BitVec 32} (h : FinAt w b o t k) (hk : k < 8) (hy : y = t.list.getD k 0) : FinAt (w.setCell ⟨b, o + k, none⟩ (.int .u32 (v y))) b o t (k + 1) := by
  obtain ⟨old, ho⟩ := h.cell k hk
  refine ⟨fun i hi => ?_, fun i hi => ?_, fun i hi => by rw [World.frozen?_setCell]; exact h.free i hi⟩
  · by_cases e : i = k
    · subst e
      rw [← hy]
      exact World.cell?_setCell_same _ _ _ ho
    · exact set_other (h.done i (by omega)) (by omega)
  · by_cases e : i = k
    · subst e; exact ⟨_, World.cell?_setCell_same _ _ _ ho⟩
    · obtain ⟨y', hy'⟩ := h.cell i hi
      exact ⟨y', set_other hy' (by omega)⟩
theorem FinAt.drawn {w : World} {b o : Nat} {t : Sha.St} {k : Nat} (h : FinAt w b o t k) (n : Nat) : FinAt (w.drewN n) b o t k := ⟨h.done, h.cell, h.free⟩
theorem FinAt.drew {w : World} {b o : Nat} {t : Sha.St} {k : Nat} (h : FinAt w b o t k) : FinAt w.drew b o t k := ⟨h.done, h.cell, h.free⟩
theorem run_idx8 (R : Sha.St) (k : Nat) (h : k < 8) (W : World) : (Instr.index 170 (.agg #[.int .u32 (v R.a), .int .u32 (v R.b), .int .u32 (v R.c), .int .u32 (v R.d), .int .u32 (v R.e), .int .u32 (v R.f), .int .u32 (v R.g), .int .u32 (v R.h)]) (.int .i64 (k : Int))).run Tryz.prog W = .ok (.int .u32 (v (R.list.getD k 0))) W := by
  have hu : Tryz.prog.underlying 170 = some (.array 8 169) := Tryz.underlying170
  have hk : (0 : Int) ≤ (k : Int) ∧ (k : Int) < (8 : Nat) := by omega
  simp [Instr.index, run_underlying hu, asIntOf, hk, go_sem]
  match k, h with
  | 0, _ => rfl
  | 1, _ => rfl
  | 2, _ => rfl
  | 3, _ => rfl
  | 4, _ => rfl
  | 5, _ => rfl
  | 6, _ => rfl
  | 7, _ => rfl
theorem addSt_getD (S R : Sha.St) (k : Nat) (h : k < 8) : S.list.getD k 0 + R.list.getD k 0 = (Sha.addSt S R).list.getD k 0 := by
  match k, h with
  | 0, _ => rfl
  | 1, _ => rfl
  | 2, _ => rfl
  | 3, _ => rfl
  | 4, _ => rfl
  | 5, _ => rfl
  | 6, _ => rfl
  | 7, _ => rfl
def Tryz.zeroW : Array Value := (List.replicate 64 (Value.int .u32 0)).toArray
theorem Tryz.zeroW_size : Tryz.zeroW.size = 64 := rfl
theorem WAt.step {w : World} {N : Nat} {xs : List Nat} {k : Nat} {y : BitVec 32} (h : WAt w N xs k) (hk : k < 64) (hy : y = Sha.next xs (Sha.sched xs k) k) : WAt (w.setCell ⟨N, k, none⟩ (.int .u32 (v y))) N xs (k + 1) := by
  obtain ⟨old, ho⟩ := h.cell k hk
  refine ⟨fun i hi => ?_, fun i hi => ?_, fun i hi => by rw [World.frozen?_setCell]; exact h.free i hi⟩
  · by_cases e : i = k
    · subst e
      rw [Sha.sched_getD xs i 64 hk, ← hy]
      exact World.cell?_setCell_same _ _ _ ho
    · exact set_other (h.done i (by omega)) (fun e' => e e'.symm)
  · by_cases e : i = k
    · subst e; exact ⟨_, World.cell?_setCell_same _ _ _ ho⟩
    · obtain ⟨y', hy'⟩ := h.cell i hi
      exact ⟨y', set_other hy' (fun e' => e e'.symm)⟩
theorem WAt.drawn {w : World} {N : Nat} {xs : List Nat} {k : Nat} (h : WAt w N xs k) (n : Nat) : WAt (w.drewN n) N xs k := ⟨h.done, h.cell, h.free⟩
theorem WAt.drew {w : World} {N : Nat} {xs : List Nat} {k : Nat} (h : WAt w N xs k) : WAt w.drew N xs k := ⟨h.done, h.cell, h.free⟩
theorem next_low {xs : List Nat} {k : Nat} (h : k < 16) : Sha.next xs (Sha.sched xs k) k = Sha.wordAt xs k := by unfold Sha.next; rw [if_pos h]
theorem next_high {xs : List Nat} {k : Nat} (h : ¬ k < 16) (hk : k < 64) : Sha.next xs (Sha.sched xs k) k = Sha.sig1 ((Sha.sched xs 64).getD (k - 2) 0) + (Sha.sched xs 64).getD (k - 7) 0 + Sha.sig0 ((Sha.sched xs 64).getD (k - 15) 0) + (Sha.sched xs 64).getD (k - 16) 0 := by
  have e : ∀ j, j < k → (Sha.sched xs k).getD j 0 = (Sha.sched xs 64).getD j 0 := fun j hj => by rw [Sha.sched_getD xs j k hj, Sha.sched_getD xs j 64 (by omega)]
  unfold Sha.next
  rw [if_neg h, e _ (by omega), e _ (by omega), e _ (by omega), e _ (by omega)]

set_option maxRecDepth 100000 in
set_option maxHeartbeats 4000000 in
theorem process_any (b o : Nat) (s : Sha.St) (a : Option Addr) (cap : Nat) (xs : List Nat) (hx : xs.length = 64) (hcap : 64 ≤ cap) (w : World) (hw : WordsAt w b o s) (hf : ∀ i, i < 8 → w.frozen? ⟨b, o + i, none⟩ = false) (hB : BytesAt w a xs) (hK : KonAt w) :
    Calls Tryz.prog 79 #[.pointer (some ⟨b, o, none⟩), .slice a 64 cap] w fun e w' => e = .returned (.tuple #[]) ∧ WordsAt w' b o (Sha.comp s xs) ∧ Chg (fun k i => k = b ∧ o ≤ i ∧ i < o + 8) w w' := by
  have HX := Lib.hid hx
  have HW := Lib.hid hw
  have HF := Lib.hid hf
  have HB := Lib.hid hB
  have HK := Lib.hid hK
  clear hx hw hf hB hK
  go_enter Tryz.func79, Tryz.ntmps79
  go_upto_region 1 with fail
  refine wp_over (fun W => Hid (WAt W w.heap.size xs 0) ∧ Hid (Below w.heap.size w W)) ⟨?_, (Below.refl _ _).alloc (Nat.le_refl _) _⟩ ?_
  · have hg := heap_alloc_new w (.cells Tryz.zeroW 241)
    exact ⟨fun i hi => by omega, fun i hi => ⟨_, (cell_of_row _ _ _ _ _ _ hg).trans (Array.getElem?_eq_getElem (by rw [Tryz.zeroW_size]; exact hi))⟩, fun i hi => frozen_of_row _ _ _ _ _ hg⟩
  rintro W ⟨HW0, HBW⟩
  generalize hN : w.heap.size = N at HW0 HBW ⊢
  have HN := Lib.hid hN
  clear hN
  obtain ⟨Q0, hq0⟩ : ∃ Q : Prop, Hid Q := ⟨True, trivial⟩
  go_wp2_with fail
  have HBY : Hid (∀ V, Below N W V → BytesAt V a xs) := fun V h => HB.out.later (by rw [HN.out]; exact HBW.out.trans h)
  go_loopw [27] (fun i wr => ∃ k : Nat, k ≤ 64 ∧ i = .int .i64 k ∧ Hid (WAt wr N xs k) ∧ Hid (Below N W wr)) (fun i _ => 64 - (intOf i).toNat)
  case atStart => exact ⟨0, by omega, rfl, HW0, Below.refl _ _⟩
  case round =>
    obtain ⟨k, hk, rfl, HWA, HBE⟩ := hrel
    by_cases hlt : k < 64
    · have hki : (k : Int) < 64 := by omega
      obtain ⟨old, hold⟩ := HWA.out.cell k hlt
      have hfree := HWA.out.free k hlt
      by_cases h16 : k < 16
      · have hki2 : (k : Int) < 16 := by omega
        have hsl := slice_lh a 64 cap (4 * k) (4 * k + 4) (by omega) (by omega)
        rw [show ((4 * k : Nat) : Int) = 4 * (k : Int) by omega, show ((4 * k + 4 : Nat) : Int) = 4 * (k : Int) + 4 by omega, show 4 * k + 4 - 4 * k = 4 by omega] at hsl
        obtain ⟨b', o', e', hc⟩ := (HBY.out _ HBE.out).some (by rw [HX.out]; omega)
        subst e'
        rw [subA_some (by omega)] at hsl
        have c0 := hc (4 * k) (by rw [HX.out]; omega)
        have c1 := hc (4 * k + 1) (by rw [HX.out]; omega)
        have c2 := hc (4 * k + 2) (by rw [HX.out]; omega)
        have c3 := hc (4 * k + 3) (by rw [HX.out]; omega)
        have x0 := (HBY.out _ HBE.out).getD_lt (4 * k) (by rw [HX.out]; omega)
        have x1 := (HBY.out _ HBE.out).getD_lt (4 * k + 1) (by rw [HX.out]; omega)
        have x2 := (HBY.out _ HBE.out).getD_lt (4 * k + 2) (by rw [HX.out]; omega)
        have x3 := (HBY.out _ HBE.out).getD_lt (4 * k + 3) (by rw [HX.out]; omega)
        rw [← Nat.add_assoc] at c1 c2 c3
        have HNX : Hid (Sha.word (xs.getD (4 * k) 0) (xs.getD (4 * k + 1) 0) (xs.getD (4 * k + 2) 0) (xs.getD (4 * k + 3) 0) = Sha.next xs (Sha.sched xs k) k) := (next_low h16).symm
        clear hc
        generalize xs.getD (4 * k) 0 = z0 at c0 x0 HNX
        generalize xs.getD (4 * k + 1) 0 = z1 at c1 x1 HNX
        generalize xs.getD (4 * k + 2) 0 = z2 at c2 x2 HNX
        generalize xs.getD (4 * k + 3) 0 = z3 at c3 x3 HNX
        go_wp2_with fail
        refine Kit.wp_region_quiet_tail 24 (by kernel_rfl) (by kernel_rfl) ?_
        simp only [List.take_succ_cons, List.take_zero, List.drop_succ_cons, List.drop_zero]
        repeat (go_big_quiet_step (fail))
        refine wpQuiet_nil ?_
        go_wp2_with fail
        go_roundw
        case rel => exact ⟨k + 1, by omega, by go_num, by show WAt _ _ _ _; rw [Sha.word_bits _ _ _ _ x0 x1 x2 x3]; exact (HWA.out.step hlt HNX.out).drew, (HBE.out.setCell (p := ⟨N, k, none⟩) (Nat.le_refl _) _).drew⟩
        case measure => simp [intOf]; omega
      · have hki2 : ¬ (k : Int) < 16 := by omega
        have HNX := Lib.hid (next_high (xs := xs) h16 hlt)
        have c2 := HWA.out.done (k - 2) (by omega)
        have c7 := HWA.out.done (k - 7) (by omega)
        have c15 := HWA.out.done (k - 15) (by omega)
        have c16 := HWA.out.done (k - 16) (by omega)
        generalize (Sha.sched xs 64).getD (k - 2) 0 = y2 at c2 HNX
        generalize (Sha.sched xs 64).getD (k - 7) 0 = y7 at c7 HNX
        generalize (Sha.sched xs 64).getD (k - 15) 0 = y15 at c15 HNX
        generalize (Sha.sched xs 64).getD (k - 16) 0 = y16 at c16 HNX
        obtain ⟨p2, hp2⟩ : ∃ p, k - 2 = p := ⟨_, rfl⟩
        obtain ⟨p7, hp7⟩ : ∃ p, k - 7 = p := ⟨_, rfl⟩
        obtain ⟨p15, hp15⟩ : ∃ p, k - 15 = p := ⟨_, rfl⟩
        obtain ⟨p16, hp16⟩ : ∃ p, k - 16 = p := ⟨_, rfl⟩
        have i2 : (k : Int) - 2 = (p2 : Int) := by omega
        have i7 : (k : Int) - 7 = (p7 : Int) := by omega
        have i15 : (k : Int) - 15 = (p15 : Int) := by omega
        have i16 : (k : Int) - 16 = (p16 : Int) := by omega
        have l2 : p2 < 64 := by omega
        have l7 : p7 < 64 := by omega
        have l15 : p15 < 64 := by omega
        have l16 : p16 < 64 := by omega
        rw [hp2] at c2
        rw [hp7] at c7
        rw [hp15] at c15
        rw [hp16] at c16
        clear hp2 hp7 hp15 hp16
        have r1 := Sha.f_xor Q0
        have r2 := Sha.f_add Q0
        have r3 := Sha.f_shr10 Q0
        have r4 := Sha.f_shr3 Q0
        have r9 := Sha.f_nonneg Q0
        go_wp2_with fail
        go_quiet (fail)
        go_wp2_with (first
          | (go_at_call 132; (with_reducible refine (rotr17 _ _).mono ?_); rintro e w' ⟨rfl, rfl⟩)
          | (go_at_call 132; (with_reducible refine (rotr19 _ _).mono ?_); rintro e w' ⟨rfl, rfl⟩)
          | (go_at_call 132; (with_reducible refine (rotr7 _ _).mono ?_); rintro e w' ⟨rfl, rfl⟩)
          | (go_at_call 132; (with_reducible refine (rotr18 _ _).mono ?_); rintro e w' ⟨rfl, rfl⟩))
        refine Kit.wp_region_quiet_tail 15 (by kernel_rfl) (by kernel_rfl) ?_
        simp only [List.take_succ_cons, List.take_zero, List.drop_succ_cons, List.drop_zero]
        repeat (go_big_quiet_step (fail))
        refine wpQuiet_nil ?_
        go_wp2_with fail
        go_roundw
        case rel => exact ⟨k + 1, by omega, by go_num, (HWA.out.drawn _).step hlt (by rw [HNX.out]; rfl), (below_drewN HBE.out _).setCell (p := ⟨N, k, none⟩) (Nat.le_refl _) _⟩
        case measure => simp [intOf]; omega
    · have e : k = 64 := by omega
      subst e
      rw [show (((64 : Nat)) : Int) = 64 from rfl]
      rename World => w1
      have HB1 : Hid (Below w.heap.size w w1) := by have h := HBW.out.trans HBE.out; rw [← HN.out] at h; exact h
      have HWD := Lib.hid (HW.out.later HB1.out)
      have c0 := HWD.out 0 (by omega)
      have c1 := HWD.out 1 (by omega)
      have c2 := HWD.out 2 (by omega)
      have c3 := HWD.out 3 (by omega)
      have c4 := HWD.out 4 (by omega)
      have c5 := HWD.out 5 (by omega)
      have c6 := HWD.out 6 (by omega)
      have c7 := HWD.out 7 (by omega)
      rw [Nat.add_zero] at c0
      obtain ⟨A, B, C, D, E, F, G, H⟩ := s
      simp only [Sha.St.list, List.getD_cons_zero, List.getD_cons_succ] at c0 c1 c2 c3 c4 c5 c6 c7
      go_upto_region 13 with fail
      have HWA1 := HWA
      have HNS : Hid (N ≤ w1.heap.size) := by have := HB1.out.size; rw [HN.out] at this; exact this
      refine wp_over (fun V => Hid (WordsAt V w1.heap.size 0 ⟨A, B, C, D, E, F, G, H⟩) ∧ Hid (WAt V N xs 64) ∧ Hid (Below w.heap.size w V)) ⟨?_, ?_, HB1.out.alloc HB1.out.size _⟩ ?_
      · intro i hi
        rw [Nat.zero_add, cell_of_row _ _ _ _ _ _ (heap_alloc_new _ _)]
        match i, hi with
        | 0, _ => rfl
        | 1, _ => rfl
        | 2, _ => rfl
        | 3, _ => rfl
        | 4, _ => rfl
        | 5, _ => rfl
        | 6, _ => rfl
        | 7, _ => rfl
      · have hb := (Below.refl w1.heap.size w1).alloc (Nat.le_refl _) (.cells #[.int .u32 (v A), .int .u32 (v B), .int .u32 (v C), .int .u32 (v D), .int .u32 (v E), .int .u32 (v F), .int .u32 (v G), .int .u32 (v H)] 170)
        exact HWA.out.later hb
      rintro V ⟨HWV, HWAV, HBV⟩
      generalize w1.heap.size = N2 at HWV HNS ⊢
      have d0 := HWV.out 0 (by omega)
      have d1 := HWV.out 1 (by omega)
      have d2 := HWV.out 2 (by omega)
      have d3 := HWV.out 3 (by omega)
      have d4 := HWV.out 4 (by omega)
      have d5 := HWV.out 5 (by omega)
      have d6 := HWV.out 6 (by omega)
      have d7 := HWV.out 7 (by omega)
      simp only [Sha.St.list, List.getD_cons_zero, List.getD_cons_succ, Nat.zero_add] at d0 d1 d2 d3 d4 d5 d6 d7
      have HKV : Hid (KonAt V) := fun t ht => (HBV.out.cell (p := ⟨1, t, none⟩) (World.block_lt_of_cell? w _ (HK.out t ht))).trans (HK.out t ht)
      clear c0 c1 c2 c3 c4 c5 c6 c7 hk hlt
      go_quiet (fail)
      clear d0 d1 d2 d3 d4 d5 d6 d7
      have HS0 := Lib.hid (show RndRel xs ⟨A, B, C, D, E, F, G, H⟩ 0 (.int .u32 (v A)) (.int .u32 (v B)) (.int .u32 (v C)) (.int .u32 (v D)) (.int .u32 (v E)) (.int .u32 (v F)) (.int .u32 (v G)) (.int .u32 (v H)) from ⟨rfl, rfl, rfl, rfl, rfl, rfl, rfl, rfl⟩)
      generalize hSe : (⟨A, B, C, D, E, F, G, H⟩ : Sha.St) = S at HW HWD HWV HS0
      have HSE := Lib.hid hSe
      clear hSe
      go_wp2_with fail
      go_loopw [12, 13, 14, 15, 16, 17, 18, 19, 123] (fun a1 b1 c1 d1 e1 f1 g1 h1 t wr => ∃ k : Nat, k ≤ 64 ∧ t = .int .i64 k ∧ RndRel xs S k a1 b1 c1 d1 e1 f1 g1 h1 ∧ ∃ n, wr = V.drewN n) (fun _ _ _ _ _ _ _ _ t _ => 64 - (intOf t).toNat)
      case atStart => exact ⟨0, by omega, rfl, HS0.out, _, rfl⟩
      case round =>
        obtain ⟨k, hk, rfl, ⟨rfl, rfl, rfl, rfl, rfl, rfl, rfl, rfl⟩, n, rfl⟩ := hrel
        obtain ⟨R, hR⟩ : ∃ R, Sha.rounds xs S k = R := ⟨_, rfl⟩
        rw [hR]
        have HR := Lib.hid hR
        clear hR
        by_cases hlt : k < 64
        · have hki : (k : Int) < 64 := by omega
          have hkon := HKV.out k hlt
          have hwk := HWAV.out.done k hlt
          have HRN : Hid (Sha.rounds xs S (k + 1) = Sha.rnd R (Sha.kon k) ((Sha.sched xs 64).getD k 0)) := by
            show _ = _
            rw [Sha.rounds, HR.out]; rfl
          generalize (Sha.sched xs 64).getD k 0 = wk at hwk HRN
          generalize Sha.kon k = kk at hkon HRN
          obtain ⟨ra, rb, rc, rd, re, rf, rg, rh⟩ := R
          dsimp only
          have r1 := Sha.f_xor Q0
          have r2 := Sha.f_add Q0
          have r3 := Sha.f_and Q0
          have r4 := Sha.f_not Q0
          have r9 := Sha.f_nonneg Q0
          go_wp2_with (first
            | (go_at_call 132; (with_reducible refine (rotr6 _ _).mono ?_); rintro e w' ⟨rfl, rfl⟩)
            | (go_at_call 132; (with_reducible refine (rotr11 _ _).mono ?_); rintro e w' ⟨rfl, rfl⟩)
            | (go_at_call 132; (with_reducible refine (rotr25 _ _).mono ?_); rintro e w' ⟨rfl, rfl⟩)
            | (go_at_call 132; (with_reducible refine (rotr2 _ _).mono ?_); rintro e w' ⟨rfl, rfl⟩)
            | (go_at_call 132; (with_reducible refine (rotr13 _ _).mono ?_); rintro e w' ⟨rfl, rfl⟩)
            | (go_at_call 132; (with_reducible refine (rotr22 _ _).mono ?_); rintro e w' ⟨rfl, rfl⟩))
          go_quiet (fail)
          go_wp2_with fail
          go_roundw
          case rel => exact ⟨k + 1, by omega, by go_num, by unfold RndRel; rw [HRN.out]; exact ⟨rfl, rfl, rfl, rfl, rfl, rfl, rfl, rfl⟩, _, rfl⟩
          case measure => simp [intOf]; omega
        · have e : k = 64 := by omega
          subst e
          rw [show (((64 : Nat)) : Int) = 64 from rfl]
          have HWV0 := Lib.hid (HW.out.later HBV.out)
          go_wp2_with fail
          go_loopw [197] (fun i wr => ∃ k : Nat, k ≤ 8 ∧ i = .int .i64 k ∧ Hid (FinAt wr b o (Sha.addSt S R) k) ∧ Hid (Chg (fun g i => g = b ∧ o ≤ i ∧ i < o + 8) V wr)) (fun i _ => 8 - (intOf i).toNat)
          case atStart =>
            refine ⟨0, by omega, rfl, ⟨fun i hi => by omega, fun i hi => ⟨_, HWV0.out i hi⟩, fun i hi => ?_⟩, (Chg.refl _ V).drewN _⟩
            exact (HBV.out.frozen (p := ⟨b, o + i, none⟩) (World.block_lt_of_cell? w _ (HW.out i hi))).trans (HF.out i hi)
          case round =>
            obtain ⟨k, hk, rfl, HFA, HCH⟩ := hrel
            by_cases hlt : k < 8
            · have hki : (k : Int) < 8 := by omega
              have hidx := run_idx8 R k hlt
              have HAD := Lib.hid (addSt_getD S R k hlt)
              have hbn : b < N2 := by
                have h1 := World.block_lt_of_cell? w _ (HW.out 0 (by omega))
                have h2 : b < w.heap.size := h1
                have h3 := HN.out
                have h4 := HNS.out
                omega
              have hcv : wr.cell? ⟨N2, k, none⟩ = some (.int .u32 (v (S.list.getD k 0))) := by
                have h := HCH.out.cell (HWV.out k hlt) (fun h => by omega)
                rwa [Nat.zero_add] at h
              obtain ⟨old, hold⟩ := HFA.out.cell k hlt
              have hfree := HFA.out.free k hlt
              generalize R.list.getD k 0 = yR at hidx HAD
              generalize S.list.getD k 0 = yS at hcv HAD
              have r2 := Sha.f_add Q0
              have r9 := Sha.f_nonneg Q0
              go_wp2_with fail
              refine Kit.wp_region_quiet_tail 10 (by kernel_rfl) (by kernel_rfl) ?_
              simp only [List.take_succ_cons, List.take_zero, List.drop_succ_cons, List.drop_zero]
              repeat (go_big_quiet_step (fail))
              refine wpQuiet_nil ?_
              go_wp2_with fail
              go_roundw
              case rel => exact ⟨k + 1, by omega, by go_num, by first | exact (HFA.out.step hlt HAD.out).drew | exact HFA.out.drew.step hlt HAD.out, by first | exact (HCH.out.setCell _ ⟨rfl, by omega, by omega⟩).drew | exact HCH.out.drew.setCell _ ⟨rfl, by omega, by omega⟩⟩
              case measure => simp [intOf]; omega
            · have e : k = 8 := by omega
              subst e
              go_wp2_with fail
              go_end0
              refine ⟨rfl, fun i hi => ?_, (Chg.of_below HBV.out).trans (HCH.out.mono fun g i _ h => h)⟩
              have h := HFA.out.done i hi
              rw [← HR.out] at h
              rw [HSE.out]
              exact h
end Go.Proofs.YtmcbnhkcjhlbaaaGreatDoor
