/- A stream of bytes: what is known of the chunker and of the chunks that it has handed out. -/
import Derived.Test.YtfnhcjcahcacnaaDoorCls
import Derived.Test.YtfnhcjcahcacnaaDoorLawsN
import Derived.Test.YtfnhcjcahcacnaaDoorLawsK
namespace Go.Proofs.YtfnhcjcahcacnaaDoor
set_option linter.unusedVariables false
set_option linter.unusedSimpArgs false
open Go.RowKit
open Roll (u)
open Kit (Chg)
open Chk

/-! ### Plain laws -/
def tot (css : List (List Nat)) : Nat := (css.map List.length).sum
theorem tot_append (a b : List (List Nat)) : tot (a ++ b) = tot a + tot b := by simp [tot]
theorem tot_one (x : List Nat) : tot [x] = x.length := by simp [tot]
theorem tot_chunksS (c : Cut) (ds : List Nat) : ∀ k, k ≤ ds.length → tot (chunksS c ds k) = startS c ds k
  | 0, _ => rfl
  | k + 1, h => by
    have ih := tot_chunksS c ds k (by omega)
    have hs := startS_le c ds k
    cases hc : cutS c ds k with
    | true => rw [chunksS_yes hc, startS_yes hc, tot_append, ih, tot_one, List.length_drop, List.length_take]; omega
    | false => rw [chunksS_no hc, startS_no hc, ih]
theorem cutS_take (c : Cut) (ds : List Nat) (n k : Nat) (h : k < n) : cutS c (ds.take n) k = cutS c ds k := by
  unfold cutS
  rw [prim_take c ds n _ (by omega), startS_take c ds n k (by omega)]
theorem chunksS_take (c : Cut) (ds : List Nat) (n : Nat) : ∀ k, k ≤ n → chunksS c (ds.take n) k = chunksS c ds k
  | 0, _ => rfl
  | k + 1, h => by rw [chunksS, chunksS, chunksS_take c ds n k (by omega), cutS_take c ds n k (by omega), startS_take c ds n k (by omega), List.take_take, Nat.min_eq_left h]
theorem chunksS_more (c : Cut) (ds : List Nat) (f T : Nat) (h : f ≤ T) : chunksS c ds T = chunksS c ds f ++ chunksFrom c (ds.take T) f (T - f) := by
  have h1 := chunksFrom_eq c (ds.take T) f (T - f)
  rw [show f + (T - f) = T by omega, chunksS_take c ds T T (Nat.le_refl _), chunksS_take c ds T f h] at h1
  exact h1
theorem take_split (ds : List Nat) (f T : Nat) (h : f ≤ T) : ds.take f ++ (ds.take T).drop f = ds.take T := by
  have e : ds.take f = (ds.take T).take f := by rw [List.take_take, Nat.min_eq_left h]
  rw [e, List.take_append_drop]

/-! ### Memory -/
theorem ChL.append {w : World} {xs ys : List (Option Addr × Nat × Nat)} {css dss : List (List Nat)} (h : ChL w xs css) (k : ChL w ys dss) : ChL w (xs ++ ys) (css ++ dss) := by
  refine ⟨by rw [List.length_append, List.length_append, h.1, k.1], fun i hi => ?_⟩
  rw [List.length_append] at hi
  by_cases hlt : i < css.length
  · obtain ⟨g, cap, h1, h2, h3, h4⟩ := h.2 i hlt
    have e : (css ++ dss).getD i [] = css.getD i [] := by rw [List.getD_eq_getElem?_getD, List.getElem?_append_left hlt, ← List.getD_eq_getElem?_getD]
    rw [e]
    exact ⟨g, cap, by rw [List.getElem?_append_left (by rw [h.1]; exact hlt)]; exact h1, h2, h3, h4⟩
  · obtain ⟨g, cap, h1, h2, h3, h4⟩ := k.2 (i - css.length) (by omega)
    have e : (css ++ dss).getD i [] = dss.getD (i - css.length) [] := by rw [List.getD_eq_getElem?_getD, List.getElem?_append_right (by omega), ← List.getD_eq_getElem?_getD]
    rw [e]
    exact ⟨g, cap, by rw [List.getElem?_append_right (by rw [h.1]; omega), h.1]; exact h1, h2, h3, h4⟩
theorem chrAt_keep {w w' : World} {B0 b : Nat} {c : Cut} {ps : List Nat} {bv : Value} {M : Nat → Nat → Prop} (h : ChrAt w B0 b c ps bv) (hc : Chg M w w') (hb : ∀ i, ¬ M b i) (hv : ∀ g, bv.ownBlock = some g → ∀ i, ¬ M g i) : ChrAt w' B0 b c ps bv := by
  refine ⟨h.mark.keep hc fun i _ => hb i, hc.cell h.buf (hb _), (hc.frozen h.buf ⟨0, hb 0⟩ 331).trans h.free, ownsRow_keepM h.row hc hv, h.bytes, ?_⟩
  obtain ⟨cc, f, ht⟩ := h.type
  obtain ⟨c', h1, _⟩ := hc.cells b ⟨0, hb 0⟩ _ _ _ ht
  exact ⟨_, _, h1⟩

/-- Chunks that have been handed out lie apart from the buffer. -/
def Apart (w : World) (B0 : Nat) (bv : Value) (rows : List (Option Addr × Nat × Nat)) : Prop := ∀ x ∈ rows, ∀ ad, x.1 = some ad → some ad.block ≠ bv.ownBlock ∧ B0 ≤ ad.block ∧ ad.block < w.heap.size
theorem row_block {w : World} {rows : List (Option Addr × Nat × Nat)} {css : List (List Nat)} (h : ChL w rows css) {x : Option Addr × Nat × Nat} (hx : x ∈ rows) {ad : Addr} (e : x.1 = some ad) : ∃ cur f, w.heap[ad.block]? = some (.cells cur 5 f) := by
  obtain ⟨i, hi, rfl⟩ := List.getElem_of_mem hx
  obtain ⟨g, cap, k1, k2, k3, cur, f', k4⟩ := h.2 i (by rw [← h.1]; exact hi)
  rw [List.getElem?_eq_getElem hi, Option.some.injEq] at k1
  rw [k1] at e
  cases e
  exact ⟨cur, f', k4⟩

/-- What is known when f bytes have come, and the chunks rows have been collected in got. -/
structure StP (B0 b N : Nat) (c : Cut) (bs : List Nat) (f : Nat) (bv got : Value) (rows : List (Option Addr × Nat × Nat)) (wr : World) : Prop where
  chr : ChrAt wr B0 b c (bs.take f) bv
  own : wr.ownsRow N 28 1 got rows.length (rows.map slV)
  are : ChL wr rows (chunksS c bs f)
  apart : Apart wr B0 bv rows
/-- What a push leaves. -/
structure StQ (B0 b N : Nat) (c : Cut) (bs : List Nat) (f T : Nat) (bv' got : Value) (rows : List (Option Addr × Nat × Nat)) (v : Value) (rows' : List (Option Addr × Nat × Nat)) (D : List (List Nat)) (w w' : World) : Prop where
  chr : ChrAt w' B0 b c (bs.take T) bv'
  own : w'.ownsRow N 28 1 got rows.length (rows.map slV)
  are : ChL w' rows (chunksS c bs f)
  apart : Apart w' B0 bv' rows
  vown : w'.ownsRow w.heap.size 28 1 v rows'.length (rows'.map slV)
  vare : ChL w' rows' D
  vapart : Apart w' B0 bv' rows'
  eq : chunksS c bs T = chunksS c bs f ++ D
  below : Below B0 w w'
  few : D.length ≤ T - f
  gotlt : ∀ g, got.ownBlock = some g → g < w.heap.size

theorem push_st (B0 b N : Nat) (c : Cut) (hk : c.Ok) (bs : List Nat) (f T : Nat) (bv got : Value) (rows : List (Option Addr × Nat × Nat)) (a : Option Addr) (cap m : Nat) (hm : T - f = m) (hfT : f ≤ T) (hT : T ≤ bs.length) (hl : bs.length ≤ 100000) (hcap : bs.length ≤ cap) (w : World) (h : StP B0 b N c bs f bv got rows w)
    (hB0 : B0 ≤ w.heap.size) (hbB : B0 ≤ b) (hN : B0 ≤ N) (hx : BytesAt w a bs) (hxb : ∀ ad, a = some ad → 0 < bs.length → ad.block < B0) (hTab : TabAt 0 Lib.deBruijn64tab w) (hpos : 0 < B0) :
    Calls Tryd.prog 42 #[.pointer (some ⟨b, 0, none⟩), .slice (subA a f cap) m (cap - f)] w fun e w' => ∃ v bv' rows' D, e = .returned v ∧ StQ B0 b N c bs f T bv' got rows v rows' D w w' := by
  subst hm
  by_cases h0 : bs.length = 0
  · have e1 : T - f = 0 := by omega
    have e2 : T = f := by omega
    subst e2
    rw [e1]
    refine (chrPush_nil b (subA a T cap) (cap - T) w).mono ?_
    rintro e w' ⟨rfl, rfl⟩
    exact ⟨_, bv, [], [], rfl, ⟨h.chr, h.own, h.are, h.apart, World.ownsRow_nil _ _ _ _, ChL.nil _, (fun x hx => by cases hx), by rw [List.append_nil], Below.refl _ _, Nat.zero_le _, fun g hg => (h.own.lt g hg).2⟩⟩
  · have hlen : ((bs.take T).drop f).length = T - f := by rw [List.length_drop, List.length_take]; omega
    have hpl : (bs.take f).length = f := by rw [List.length_take]; omega
    have hsub : ∀ ad, subA a f cap = some ad → ad.block < B0 := fun ad e => by
      obtain ⟨b', o', e', hc⟩ := hx.some (by omega)
      have := hxb _ e' (by omega)
      rw [e'] at e
      unfold subA at e
      split at e
      · cases e; exact this
      · rw [Option.map_some, add_none] at e; cases e; exact this
    have hbv : ∀ g, bv.ownBlock = some g → B0 ≤ g := fun g hg => (h.chr.row.lt g hg).1
    have hP := chrPush_any B0 b c hk (bs.take f) ((bs.take T).drop f) bv (subA a f cap) (cap - f) (by rw [hpl, hlen]; omega) w h.chr hB0 hbB (bytesAt_sub hx hcap f T) (fun ad e => by
      have h1 := hsub ad e
      exact ⟨by omega, fun e' => by have := hbv _ e'.symm; omega⟩) hTab hpos
    rw [hlen, hpl, take_split bs f T hfT] at hP
    refine hP.mono ?_
    rintro e w' ⟨v, rfl, ⟨⟨bv', rows', hA, hO, h5⟩, hc⟩⟩
    have hfT2 : f + (T - f) = T := by omega
    rw [hfT2, List.take_take, Nat.min_self] at hA
    obtain ⟨cc, ff, ht⟩ := h.chr.type
    have hblt := (Array.getElem?_eq_some_iff.1 ht).1
    have hgot : ∀ g, got.ownBlock = some g → ∀ i, ¬ (pushCells b bv g i ∨ w.heap.size ≤ g) := fun g hg i hm => by
      have hl := (h.own.lt g hg).2
      rcases hm with (h1 | h1) | h1
      · rw [h1] at hg; exact not_row_of h.own ht (by decide) hg.symm
      · exact rows_apart h.own h.chr.row (by decide) hg h1
      · omega
    have hrow : ∀ x ∈ rows, ∀ ad, x.1 = some ad → w'.heap[ad.block]? = w.heap[ad.block]? := fun x hx ad e => by
      obtain ⟨k1, k2, k3⟩ := h.apart x hx ad e
      refine hc.other _ k3 fun i hm => ?_
      rcases hm with (h1 | h1) | h1
      · obtain ⟨cur, fz, hz⟩ := row_block h.are hx e
        rw [h1, ht] at hz; cases hz
      · exact k1 h1
      · omega
    refine ⟨v, bv', rows', _, rfl, hA, ownsRow_keepM h.own hc hgot, h.are.keepOf hrow, fun x hx ad e => ?_, hO.own, hO.are, hO.apart, chunksS_more c bs f T hfT, hc.below hB0 fun g i hg hm => ?_, chunksFrom_length _ _ _ _, fun g hg => (h.own.lt g hg).2⟩
    · obtain ⟨k1, k2, k3⟩ := h.apart x hx ad e
      exact ⟨h5 _ k3 k1, k2, by have := hc.size; omega⟩
    · rcases hm with (h1 | h1) | h1
      · omega
      · have := hbv g h1.symm; omega
      · omega

/-- A list of slices that grows: what it changes. -/
structure GrowRel (w0 : World) (o0 : Option Nat) (base : Nat) (rows : List (Option Addr × Nat × Nat)) (v : Value) (wr : World) : Prop where
  own : wr.ownsRow base 28 1 v rows.length (rows.map slV)
  chg : Chg (fun g _ => some g = o0 ∨ w0.heap.size ≤ g) w0 wr
  blk : ∀ g, v.ownBlock = some g → some g = o0 ∨ w0.heap.size ≤ g
theorem GrowRel.start {w : World} {base : Nat} {rows : List (Option Addr × Nat × Nat)} {v : Value} (h : w.ownsRow base 28 1 v rows.length (rows.map slV)) : GrowRel w v.ownBlock base rows v w := ⟨h, Chg.refl _ _, fun g hg => .inl hg.symm⟩
theorem GrowRel.push {w0 wr w4 : World} {o0 : Option Nat} {base : Nat} {rows : List (Option Addr × Nat × Nat)} {v v' : Value} {x : Option Addr × Nat × Nat} {o : Obj} (h : GrowRel w0 o0 base rows v wr) (hown : w4.ownsRow base 28 1 v' (rows.length + 1) (rows.map slV ++ [slV x])) (hgr : (wr.alloc o).grownBy w4 v.ownBlock)
    (hat : v'.ownBlock = v.ownBlock ∨ v'.ownBlock = some (wr.alloc o).heap.size) : GrowRel w0 o0 base (rows ++ [x]) v' w4 := by
  refine ⟨by rw [List.map_append, List.length_append]; exact hown, h.chg.trans ((Chg.alloc1 wr _).trans (Chg.of_grown hgr (fun g _ e => h.blk g e))), fun g hg => ?_⟩
  rcases hat with e | e
  · exact h.blk g (e.symm.trans hg)
  · rw [e] at hg
    have e2 : (wr.alloc o).heap.size = g := by simpa using hg
    rw [World.size_alloc] at e2
    have := h.chg.size
    exact .inr (by omega)
/-- The chunks of a push have been collected. -/
theorem st_of {B0 b N : Nat} {c : Cut} {bs : List Nat} {f T : Nat} {bv' got v G : Value} {rows rows' : List (Option Addr × Nat × Nat)} {D : List (List Nat)} {w w' wr : World} (h : StQ B0 b N c bs f T bv' got rows v rows' D w w') (g : GrowRel w' got.ownBlock N (rows ++ rows') G wr) (hN : B0 ≤ N) (hB : B0 ≤ w'.heap.size) :
    StP B0 b N c bs T bv' G (rows ++ rows') wr ∧ Below B0 w' wr := by
  obtain ⟨cc, ff, ht⟩ := h.chr.type
  have hblt := (Array.getElem?_eq_some_iff.1 ht).1
  have hsz := g.chg.size
  have hkeep : ∀ (xs : List (Option Addr × Nat × Nat)) (css : List (List Nat)), ChL w' xs css → Apart w' B0 bv' xs → ChL wr xs css := fun xs css hL hA => hL.keepOf fun x hx ad e => by
    obtain ⟨k1, k2, k3⟩ := hA x hx ad e
    obtain ⟨cur, fz, hz⟩ := row_block hL hx e
    refine g.chg.other _ k3 fun i hm => ?_
    rcases hm with h1 | h1
    · exact not_row_of h.own hz (by decide) h1
    · omega
  refine ⟨⟨chrAt_keep h.chr g.chg (fun i hm => ?_) (fun q hq i hm => ?_), g.own, by rw [h.eq]; exact (hkeep _ _ h.are h.apart).append (hkeep _ _ h.vare h.vapart), fun x hx ad e => ?_⟩, g.chg.below hB fun q i hq hm => ?_⟩
  · rcases hm with h1 | h1
    · exact not_row_of h.own ht (by decide) h1
    · omega
  · have hl := (h.chr.row.lt q hq).2
    rcases hm with h1 | h1
    · exact rows_apart h.chr.row h.own (by decide) hq h1
    · omega
  · rcases List.mem_append.1 hx with hx | hx
    · obtain ⟨k1, k2, k3⟩ := h.apart x hx ad e; exact ⟨k1, k2, by omega⟩
    · obtain ⟨k1, k2, k3⟩ := h.vapart x hx ad e; exact ⟨k1, k2, by omega⟩
  · rcases hm with h1 | h1
    · have := (h.own.lt q h1.symm).1; omega
    · omega
/-- The cells of the slice that a push has handed out stay while they are collected. -/
theorem vcell {B0 b N : Nat} {c : Cut} {bs : List Nat} {f T : Nat} {bv' got v : Value} {rows rows' : List (Option Addr × Nat × Nat)} {D : List (List Nat)} {w w' wr : World} (h : StQ B0 b N c bs f T bv' got rows v rows' D w w') (hc : Chg (fun g _ => some g = got.ownBlock ∨ w'.heap.size ≤ g) w' wr) (j : Nat) (hj : j < D.length) :
    ∃ gv capv g cap, v = .slice (some ⟨gv, 0, none⟩) D.length capv ∧ wr.cell? ⟨gv, j, none⟩ = some (.slice (some ⟨g, 0, none⟩) (D.getD j []).length cap) ∧ rows'[j]? = some (some ⟨g, 0, none⟩, (D.getD j []).length, cap) := by
  have hl := h.vare.1
  obtain ⟨y, hy⟩ : ∃ y, rows'.length = y + 1 := ⟨rows'.length - 1, by omega⟩
  have ho := h.vown
  obtain ⟨gv, capv, hv⟩ := ownsRow_succ (by rw [hy] at ho; exact ho)
  rw [← hy, hl] at hv
  obtain ⟨g, cap, h1, _⟩ := h.vare.2 j hj
  refine ⟨gv, capv, g, cap, hv, ?_, h1⟩
  subst hv
  have hlt := (h.vown.lt gv rfl)
  have hcell := h.vown.cells (g := gv) rfl j (slV (some ⟨g, 0, none⟩, (D.getD j []).length, cap)) (by rw [List.getElem?_map, h1]; rfl)
  rw [add_none, Nat.zero_add] at hcell
  refine hc.cell hcell fun hm => ?_
  rcases hm with h1 | h1
  · have := h.gotlt gv h1.symm; omega
  · omega
theorem held_form {B0 b N : Nat} {c : Cut} {bs : List Nat} {f : Nat} {bv got : Value} {rows : List (Option Addr × Nat × Nat)} {wr : World} (h : StP B0 b N c bs f bv got rows wr) (hf : f ≤ bs.length) : ∃ a cap, bv = .slice a (f - startS c bs f) cap ∧ wr.cell? ⟨b, 331, none⟩ = some (.slice a (f - startS c bs f) cap) := by
  have hr := chr_row h.chr hf
  have hb := h.chr.buf
  rcases hr.2 with ⟨rfl, h0⟩ | ⟨g, cap, cur, rfl, _⟩
  · exact ⟨none, 0, by rw [h0], by rw [hb, h0]⟩
  · exact ⟨_, cap, rfl, hb⟩
theorem tot_take_le (css D : List (List Nat)) (j : Nat) : tot (css ++ D.take j) ≤ tot (css ++ D) := by
  have e : tot D = tot (D.take j) + tot (D.drop j) := by rw [← tot_append, List.take_append_drop]
  rw [tot_append, tot_append, e]; omega
theorem tot_take_succ (css D : List (List Nat)) (j : Nat) (hj : j < D.length) : tot (css ++ D.take (j + 1)) = tot (css ++ D.take j) + (D.getD j []).length := by
  rw [List.take_succ_eq_append_getElem hj, ← List.append_assoc, tot_append, tot_one, List.getD_eq_getElem?_getD, List.getElem?_eq_getElem hj]; rfl
theorem rows_succ {rows rows' : List (Option Addr × Nat × Nat)} {j : Nat} {x : Option Addr × Nat × Nat} (h : rows'[j]? = some x) : rows ++ rows'.take (j + 1) = (rows ++ rows'.take j) ++ [x] := by
  obtain ⟨hj, e⟩ := List.getElem?_eq_some_iff.1 h
  rw [List.take_succ_eq_append_getElem hj, e, List.append_assoc]
theorem quiet1 {P : Program} {f : FuncId} {args : Array Value} {w : World} {n : Nat} {v : Value}
    (h : Calls P f args (w.drewN n) fun e w' => e = .returned v ∧ w.drewN n = w') : Calls P f args (w.drewN n) fun e w'' => e = .returned v ∧ ∃ m, w'' = w.drewN m :=
  h.mono fun _ _ ⟨he, hm⟩ => ⟨he, n, hm.symm⟩
theorem StP.drewN {B0 b N : Nat} {c : Cut} {bs : List Nat} {f : Nat} {bv got : Value} {rows : List (Option Addr × Nat × Nat)} {wr : World} (h : StP B0 b N c bs f bv got rows wr) (n : Nat) : StP B0 b N c bs f bv got rows (wr.drewN n) :=
  have hC : Chg (fun _ _ => False) wr (wr.drewN n) := (Chg.refl _ wr).drewN n
  ⟨chrAt_keep h.chr hC (fun _ h => h) (fun _ _ _ h => h), ownsRow_keepM h.own hC (fun _ _ _ h => h), h.are.keep (fun _ _ _ _ => rfl), h.apart⟩
theorem chunks_end (c : Cut) (bs : List Nat) : chunks c bs = chunksS c bs bs.length ++ if startS c bs bs.length < bs.length then [bs.drop (startS c bs bs.length)] else [] := rfl
/-- Close hands out what is left. -/
theorem close_st {B0 b N : Nat} {c : Cut} {bs : List Nat} {bv got v : Value} {rows : List (Option Addr × Nat × Nat)} {w w' : World} (h : StP B0 b N c bs bs.length bv got rows w) (hc : Closed w B0 b c bs bv v w') (hB0 : B0 ≤ w.heap.size) (hbB : B0 ≤ b) (hl : bs.length ≤ 100000) :
    ∃ ao m cpo rows2 bv2, v = .slice ao m cpo ∧ SrcAt w' ao m cpo 1 (rows2.map slV) ∧ rows2.length = m ∧ m ≤ 1 ∧ ChrAt w' B0 b c [] bv2 ∧ w'.ownsRow N 28 1 got rows.length (rows.map slV) ∧ ChL w' (rows ++ rows2) (chunks c bs) ∧ Below B0 w w' := by
  obtain ⟨cc, ff, ht⟩ := h.chr.type
  have hblt := (Array.getElem?_eq_some_iff.1 ht).1
  have hgot : ∀ g, got.ownBlock = some g → ∀ i, ¬ closeCells b g i := fun g hg i hm => by
    rw [hm.1] at hg; exact not_row_of h.own ht (by decide) hg.symm
  have hkeep : ∀ {w' : World}, Chg (closeCells b) w w' → ∀ (g : Nat) (cur : Array Value) (f : Nat × Nat), w.heap[g]? = some (.cells cur 5 f) → w'.heap[g]? = w.heap[g]? := fun hC g cur f hg => hC.other g (Array.getElem?_eq_some_iff.1 hg).1 fun i hm => by
    rw [hm.1, ht] at hg; cases hg
  have hbel : ∀ {w' : World}, Chg (closeCells b) w w' → Below B0 w w' := fun hC => hC.below hB0 fun g i hg hm => by have := hm.1; omega
  rcases hc with ⟨hs, rfl, hA, hC⟩ | ⟨hs, g, cap, M, rfl, rfl, hM1, hM2, hA, hC, hMM⟩
  · refine ⟨none, 0, 0, [], bv, rfl, .inl ⟨rfl, rfl, rfl, rfl⟩, rfl, by omega, hA, ownsRow_keepM h.own hC hgot, ?_, hbel hC⟩
    rw [chunks_end, if_neg (by omega), List.append_nil, List.append_nil]
    exact h.are.keep (hkeep hC)
  · have hr := chr_row h.chr (Nat.le_refl _)
    rw [List.take_length] at hr
    obtain ⟨hlen, a1, cap2, hv1, hcap, _, hby, _⟩ := bytes_of_own hr (fun x hx => h.chr.bytes x (by rw [List.take_length]; exact List.mem_of_mem_drop hx)) (by rw [List.length_drop]; unfold maxLen; omega)
    simp only [Value.slice.injEq] at hv1
    obtain ⟨rfl, _, rfl⟩ := hv1
    obtain ⟨cur1, ht1⟩ := row_type hr (g := g) rfl
    refine ⟨some ⟨M, 0, none⟩, 1, 1, [(some ⟨g, 0, none⟩, (bs.drop (startS c bs bs.length)).length, cap)], _, rfl, .inr ⟨rfl, _, rfl, fun j u hj => ?_⟩, rfl, Nat.le_refl _, hA, ownsRow_keepM h.own hC hgot, ?_, hbel hC⟩
    · match j, hj with
      | 0, hj =>
        have hj' : u = slV (some ⟨g, 0, none⟩, (bs.drop (startS c bs bs.length)).length, cap) := by simpa using hj.symm
        rw [hj', add_none, cell_of_row _ _ _ _ _ _ hMM]
        simp [List.length_drop]
    · rw [chunks_end, if_pos hs]
      exact (h.are.keep (hkeep hC)).append ((ChL.nil _).snoc (bytesAt_same hby (hkeep hC g _ _ ht1)) hcap ⟨_, _, (hkeep hC g _ _ ht1).trans ht1⟩)
/-- .. and it is appended to the others. -/
theorem coll_st {B0 b N n8 : Nat} {c : Cut} {bv2 got v8 : Value} {rows xs : List (Option Addr × Nat × Nat)} {css : List (List Nat)} {w w8 : World} (hA : ChrAt w B0 b c [] bv2) (ho : w.ownsRow N 28 1 got rows.length (rows.map slV)) (hL : ChL w xs css) (hgr : w.grownBy w8 got.ownBlock) (ho8 : w8.ownsRow N 28 1 v8 n8 (xs.map slV)) (hB0 : B0 ≤ w.heap.size) (hN : B0 ≤ N) :
    ChrAt w8 B0 b c [] bv2 ∧ (∃ a cap, v8 = .slice a css.length cap ∧ Lists w8 a css) ∧ Below B0 w w8 := by
  have hC : Chg (fun g _ => some g = got.ownBlock) w w8 := Chg.of_grown hgr (fun g _ e => e.symm)
  obtain ⟨cc, ff, ht⟩ := hA.type
  have hL8 : ChL w8 xs css := hL.keep fun g cur f hg => hC.other g (Array.getElem?_eq_some_iff.1 hg).1 fun i hm => not_row_of ho hg (by decide) hm
  obtain ⟨_, a, cap, rfl, _, _, hli, _⟩ := lists_of_own ho8 hL8
  exact ⟨chrAt_keep hA hC (fun i hm => not_row_of ho ht (by decide) hm) (fun g hg i hm => rows_apart hA.row ho (by decide) hg hm), ⟨a, cap, rfl, hli⟩, hC.below hB0 fun g i hg hm => by have := (ho.lt g hm.symm).1; omega⟩
theorem empty_form {w : World} {B0 b : Nat} {c : Cut} {bv : Value} (h : ChrAt w B0 b c [] bv) : ∃ a cap, bv = .slice a 0 cap ∧ w.cell? ⟨b, 331, none⟩ = some (.slice a 0 cap) := by
  have hr := h.row
  have hb := h.buf
  rcases hr.2 with ⟨rfl, h0⟩ | ⟨g, cap, cur, rfl, _⟩
  · exact ⟨none, 0, rfl, hb⟩
  · exact ⟨_, cap, rfl, hb⟩
theorem close_empty (B0 b : Nat) (c : Cut) (hk : c.Ok) (bv : Value) (w : World) (h : ChrAt w B0 b c [] bv) (hB0 : B0 ≤ w.heap.size) (hbB : B0 ≤ b) :
    Calls Tryd.prog 54 #[.pointer (some ⟨b, 0, none⟩)] w fun e w' => e = .returned (.slice none 0 0) ∧ ChrAt w' B0 b c [] bv ∧ Below B0 w w' := by
  refine (close_any B0 b c hk [] bv w h (by simp)).mono ?_
  rintro e w' ⟨v, rfl, ⟨_, rfl, hA, hC⟩ | ⟨hs, _⟩⟩
  · exact ⟨rfl, hA, hC.below hB0 fun g i hg hm => by have := hm.1; omega⟩
  · simp [startS] at hs
end Go.Proofs.YtfnhcjcahcacnaaDoor
