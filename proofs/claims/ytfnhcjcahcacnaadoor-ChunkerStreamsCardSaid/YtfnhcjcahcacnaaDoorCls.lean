/- The chunker of a stream: restart, Close. -/
import Derived.Test.YtfnhcjcahcacnaaDoorPsh
namespace Go.Proofs.YtfnhcjcahcacnaaDoor
set_option linter.unusedVariables false
set_option linter.unusedSimpArgs false
open Go.RowKit
open Roll (u)
open Kit (Chg)
open Chk

/-- A marker whose numbers have been set anew. -/
theorem mark_set {w w1 w2 : World} {b : Nat} {c : Cut} {ps qs : List Nat} (h : MarkAt w b c ps) (hr : ∃ st, RollAt w1 b 0 c.seed c.win (lastOf qs c.win) st) (hc1 : Chg (rollCells b 0) w w1)
    (hc2 : Chg (fun k i => k = b ∧ (i = 329 ∨ i = 330)) w1 w2) (hp : w2.cell? ⟨b, 329, none⟩ = some (.int .i64 qs.length)) (hl : w2.cell? ⟨b, 330, none⟩ = some (.int .i64 (lastM c qs qs.length))) :
    MarkAt w2 b c qs ∧ Chg (markCells b) w w2 := by
  have k1 : ∀ i, 324 ≤ i → ¬ rollCells b 0 b i := fun i hi hm => by have := hm.2.2; omega
  have k2 : ∀ i, i < 329 → ¬ (b = b ∧ (i = 329 ∨ i = 330)) := fun i hi hm => by omega
  have f : ∀ i, w2.frozen? ⟨b, i, none⟩ = w.frozen? ⟨b, i, none⟩ := fun i => (hc2.frozen (hc1.cell h.mn (k1 _ (by omega))) ⟨0, k2 0 (by omega)⟩ i).trans (hc1.frozen h.mn ⟨324, k1 _ (by omega)⟩ i)
  obtain ⟨st, hr⟩ := hr
  refine ⟨⟨⟨st, ⟨fun i hi => hc2.cell (hr.table i hi) (k2 _ (by omega)), fun i hi => let ⟨v, hv, hcv⟩ := hr.ring i hi; ⟨v, hv, hc2.cell hcv (k2 _ (by omega))⟩,
      fun i hi => hc2.cell (hr.held i hi) (k2 _ (by omega)), hc2.cell hr.window (k2 _ (by omega)), hc2.cell hr.start (k2 _ (by omega)), hc2.cell hr.length (k2 _ (by omega)), hc2.cell hr.sum (k2 _ (by omega)),
      fun i hi => by rw [hc2.frozen hr.window ⟨0, k2 0 (by omega)⟩]; exact hr.free i hi, hr.st64, hr.win1, hr.win64, hr.full, hr.bytes⟩⟩,
    hc2.cell (hc1.cell h.mn (k1 _ (by omega))) (k2 _ (by omega)), hc2.cell (hc1.cell h.mx (k1 _ (by omega))) (k2 _ (by omega)), hc2.cell (hc1.cell h.win (k1 _ (by omega))) (k2 _ (by omega)), hc2.cell (hc1.cell h.bits (k1 _ (by omega))) (k2 _ (by omega)), hp, hl,
    (f _).trans h.free1, (f _).trans h.free2, h.some⟩, ?_⟩
  exact (hc1.mono fun k i _ hm => ⟨hm.1, by have := hm.2.1; omega, by have := hm.2.2; omega⟩).trans (hc2.mono fun k i _ hm => ⟨hm.1, by omega, by omega⟩)

set_option maxRecDepth 100000 in
set_option maxHeartbeats 400000 in
theorem restart_any (b : Nat) (c : Cut) (hk : c.Ok) (ps : List Nat) (w : World) (h : MarkAt w b c ps) :
    Calls Tryd.prog 66 #[.pointer (some ⟨b, 0, none⟩)] w fun e w' => e = .returned (.tuple #[]) ∧ MarkAt w' b c [] ∧ Chg (markCells b) w w' := by
  have HM := Lib.hid h
  have hmn : c.mn ≤ 32768 := Nat.le_trans hk.mx hk.most
  obtain ⟨st, hr⟩ := h.roll
  have HR := Lib.hid hr
  clear h hr hk
  go_enter Tryd.func66, Tryd.ntmps66
  go_wp2_with fail
  refine (reset_any b 0 c.seed c.win (lastOf ps c.win) st w HR.out).mono ?_
  rintro e w1 ⟨rfl, hr1, hc1⟩
  have HR1 := Lib.hid hr1
  have HC1 := Lib.hid hc1
  have k1 : ∀ i, 324 ≤ i → ¬ rollCells b 0 b i := fun i hi hm => by have := hm.2.2; omega
  have q1 : w1.cell? ⟨b, 324, none⟩ = some (.int .i64 c.mn) := hc1.cell HM.out.mn (k1 _ (by omega))
  have q2 : w1.cell? ⟨b, 329, none⟩ = some (.int .i64 ps.length) := hc1.cell HM.out.pos (k1 _ (by omega))
  have q3 : w1.cell? ⟨b, 330, none⟩ = some (.int .i64 (lastM c ps ps.length)) := hc1.cell HM.out.last (k1 _ (by omega))
  have f1 : w1.frozen? ⟨b, 329, none⟩ = false := (hc1.frozen HM.out.mn ⟨324, k1 _ (by omega)⟩ 329).trans HM.out.free1
  have f2 : w1.frozen? ⟨b, 330, none⟩ = false := (hc1.frozen HM.out.mn ⟨324, k1 _ (by omega)⟩ 330).trans HM.out.free2
  clear hr1 hc1 k1
  go_wp2
  go_end0
  have hC : Chg (fun k i => k = b ∧ (i = 329 ∨ i = 330)) w1 ((w1.setCell ⟨b, 329, none⟩ (.int .i64 0)).setCell ⟨b, 330, none⟩ (.int .i64 (-(c.mn : Int)))) := (Chg.setCell1 _ _ _ _ ⟨rfl, .inl rfl⟩).setCell _ ⟨rfl, .inr rfl⟩
  obtain ⟨m1, m2⟩ := mark_set (qs := []) HM.out ⟨0, by rw [show lastOf [] c.win = [] by simp [lastOf]]; exact HR1.out⟩ HC1.out hC (set_other (set_same q2) (by omega)) (set_same (set_other q3 (by omega)))
  exact ⟨rfl, m1, m2⟩

/-- The cells that Close may write. -/
def closeCells (b : Nat) : Nat → Nat → Prop := fun k i => k = b ∧ 256 ≤ i
/-- What Close leaves and hands out. -/
def Closed (w : World) (B0 b : Nat) (c : Cut) (ps : List Nat) (bv v : Value) (w' : World) : Prop :=
  (startS c ps ps.length = ps.length ∧ v = .slice none 0 0 ∧ ChrAt w' B0 b c [] bv ∧ Chg (closeCells b) w w') ∨
  (startS c ps ps.length < ps.length ∧ ∃ g cap N, bv = .slice (some ⟨g, 0, none⟩) (ps.length - startS c ps ps.length) cap ∧ v = .slice (some ⟨N, 0, none⟩) 1 1 ∧ w.heap.size ≤ N ∧ N < w'.heap.size ∧ ChrAt w' B0 b c [] (.slice none 0 0) ∧ Chg (closeCells b) w w' ∧
    w'.heap[N]? = some (.cells #[.slice (some ⟨g, 0, none⟩) (ps.length - startS c ps ps.length) cap] 28 (0, 0)))

set_option maxRecDepth 100000 in
set_option maxHeartbeats 400000 in
theorem close_any (B0 b : Nat) (c : Cut) (hk : c.Ok) (ps : List Nat) (bv : Value) (w : World) (h : ChrAt w B0 b c ps bv) (hl : ps.length ≤ 100000) :
    Calls Tryd.prog 54 #[.pointer (some ⟨b, 0, none⟩)] w fun e w' => ∃ v, e = .returned v ∧ Closed w B0 b c ps bv v w' := by
  have HH := Lib.hid h
  have HK := Lib.hid hk
  have hrow := h.row
  have hs := startS_le c ps ps.length
  have hdl : (ps.drop (startS c ps ps.length)).length = ps.length - startS c ps ps.length := List.length_drop
  obtain ⟨cc, f, ht⟩ := h.type
  have hblt := (Array.getElem?_eq_some_iff.1 ht).1
  have hbv : some b ≠ bv.ownBlock := not_row_of h.row ht (by decide)
  have HBV := Lib.hid hbv
  obtain ⟨n, hn⟩ : ∃ n, ps.length - startS c ps ps.length = n := ⟨_, rfl⟩
  rw [hn] at hdl
  rw [hdl] at hrow
  have HROW := Lib.hid hrow
  have HN := Lib.hid hn
  have hform : ∃ a cap, bv = .slice a n cap := by
    rcases hrow.2 with ⟨rfl, h0⟩ | ⟨g, cap, cur, rfl, _⟩
    · exact ⟨none, 0, by rw [h0]⟩
    · exact ⟨_, cap, rfl⟩
  have hsome : 0 < n → ∃ g cap, bv = .slice (some ⟨g, 0, none⟩) n cap := fun h0 => by
    obtain ⟨y, rfl⟩ : ∃ y, n = y + 1 := ⟨n - 1, by omega⟩
    exact ownsRow_succ hrow
  obtain ⟨a, cap, rfl⟩ := hform
  have HSOME := Lib.hid hsome
  clear h hk hrow hdl ht hbv hn hsome
  go_enter Tryd.func54, Tryd.ntmps54
  go_wp2_with fail
  refine (restart_any b c HK.out ps w HH.out.mark).mono ?_
  rintro e w1 ⟨rfl, hm1, hc1⟩
  have HM1 := Lib.hid hm1
  have HC1 := Lib.hid hc1
  have q1 : w1.cell? ⟨b, 331, none⟩ = some (.slice a n cap) := hc1.cell HH.out.buf (fun h => by have := h.2.2; omega)
  have f1 : w1.frozen? ⟨b, 331, none⟩ = false := (hc1.frozen HH.out.buf ⟨331, fun h => by have := h.2.2; omega⟩ 331).trans HH.out.free
  have HT1 : Hid (∃ cc f, w1.heap[b]? = some (.cells cc 84 f)) := by
    obtain ⟨cc, f, ht⟩ := HH.out.type
    obtain ⟨c', h1, _⟩ := hc1.cells b ⟨0, fun h => by have := h.2.1; omega⟩ _ _ _ ht
    exact ⟨_, _, h1⟩
  have HCC : Hid (Chg (closeCells b) w w1) := hc1.mono fun k i _ hm => ⟨hm.1, hm.2.1⟩
  have hs1 := hc1.size
  clear hm1 hc1
  by_cases h0 : n = 0
  · subst h0
    go_wp2_with fail
    go_ret
    refine ⟨_, rfl, .inl ⟨by have := HN.out; omega, rfl, ⟨HM1.out, q1, f1, ?_, by simp, HT1.out⟩, HCC.out⟩⟩
    have h := ownsRow_keepM HROW.out HC1.out (fun g hg i hm => HBV.out (by rw [hg, hm.1]))
    have e : bvals (ps.drop (startS c ps ps.length)) = [] := by
      have := HN.out
      rw [List.drop_of_length_le (by omega)]; rfl
    rw [e] at h
    exact h
  · have hne : ((n : Int) == 0) = false := by rw [beq_eq_false_iff_ne]; omega
    obtain ⟨g, cp, hv⟩ := HSOME.out (by omega)
    simp only [Value.slice.injEq] at hv
    obtain ⟨rfl, _, rfl⟩ := hv
    have Q1 := Lib.hid q1
    have F1 := Lib.hid f1
    go_wp2_with fail
    refine (take_any w1 b _ _ _ Q1.out F1.out).mono ?_
    rintro e w2 ⟨rfl, he2⟩
    have HE2 := Lib.hid he2
    clear he2 q1 f1
    go_wp2_with fail
    go_ret
    have hC2 : Chg (closeCells b) w w2 := by rw [HE2.out]; exact HCC.out.setCell _ ⟨rfl, by omega⟩
    have hs2 := hC2.size
    have hC3 : Chg (closeCells b) w (w2.alloc (.cells #[.slice (some ⟨g, 0, none⟩) n cap] 28)) := hC2.alloc _
    have hC4 : Chg (fun k i => k = b ∧ i = 331) w1 (w2.alloc (.cells #[.slice (some ⟨g, 0, none⟩) n cap] 28)) := by
      rw [HE2.out]; exact (Chg.setCell1 _ _ _ _ ⟨rfl, rfl⟩).alloc _
    have hnn := HN.out
    have hb1 : b < w1.heap.size := by omega
    have q2 : w2.cell? ⟨b, 331, none⟩ = some (.slice none 0 0) := by rw [HE2.out]; exact World.cell?_setCell_same _ _ _ Q1.out
    have f2 : w2.frozen? ⟨b, 331, none⟩ = false := by rw [HE2.out, World.frozen?_setCell]; exact F1.out
    have hb2 : b < w2.heap.size := by omega
    have hal : (w2.alloc (.cells #[.slice (some ⟨g, 0, none⟩) n cap] 28)).heap[b]? = w2.heap[b]? := Below.heap_alloc _ _ _ hb2
    refine ⟨_, rfl, .inr ⟨by omega, g, cap, w2.heap.size, by rw [hnn], rfl, by omega, by simp, ⟨HM1.out.keep (M := fun k i => k = b ∧ i = 331) hC4 (fun i hi hm => by have := hm.2; omega), (World.cell?_of_block (a := ⟨b, 331, none⟩) hal).trans q2, (World.frozen?_of_block (a := ⟨b, 331, none⟩) hal).trans f2, World.ownsRow_nil _ _ _ _, by simp, ?_⟩, hC3, by rw [hnn]; exact heap_alloc_new _ _⟩⟩
    obtain ⟨cc, f, ht⟩ := HT1.out
    obtain ⟨c', h1, _⟩ := hC4.cells b ⟨0, fun h => by have := h.2; omega⟩ _ _ _ ht
    exact ⟨_, _, h1⟩
end Go.Proofs.YtfnhcjcahcacnaaDoor
