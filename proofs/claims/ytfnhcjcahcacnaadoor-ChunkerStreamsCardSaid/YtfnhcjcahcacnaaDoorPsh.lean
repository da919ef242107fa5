/- The chunker of a stream: Push. -/
import Derived.Test.YtfnhcjcahcacnaaDoorMid
namespace Go.Proofs.YtfnhcjcahcacnaaDoor
open Go.RowKit
open Roll (u)
open Kit (Chg)
open Chk

theorem startS_take (c : Cut) (ds : List Nat) (n : Nat) : ∀ k, k ≤ n → startS c (ds.take n) k = startS c ds k
  | 0, _ => rfl
  | k + 1, h => by rw [startS, startS, startS_take c ds n k (by omega), prim_take c ds n _ h]
/-- The chunks that are complete with k more bytes behind p. -/
def chunksFrom (c : Cut) (ds : List Nat) (p : Nat) : Nat → List (List Nat)
  | 0 => []
  | k + 1 => chunksFrom c ds p k ++ if cutS c ds (p + k) then [(ds.take (p + k + 1)).drop (startS c ds (p + k))] else []
theorem chunksFrom_eq (c : Cut) (ds : List Nat) (p : Nat) : ∀ k, chunksS c ds (p + k) = chunksS c ds p ++ chunksFrom c ds p k
  | 0 => by rw [chunksFrom, List.append_nil]; rfl
  | k + 1 => by rw [← Nat.add_assoc, chunksS, chunksFrom, chunksFrom_eq c ds p k, List.append_assoc]
theorem chunksFrom_zero (c : Cut) (ds : List Nat) (k : Nat) : chunksFrom c ds 0 k = chunksS c ds k := by
  have := chunksFrom_eq c ds 0 k
  rw [Nat.zero_add] at this
  rw [this]; rfl
theorem chunksFrom_length (c : Cut) (ds : List Nat) (p : Nat) : ∀ k, (chunksFrom c ds p k).length ≤ k
  | 0 => Nat.le_refl _
  | k + 1 => by
    have := chunksFrom_length c ds p k
    rw [chunksFrom, List.length_append]
    split <;> simp <;> omega

/-- The blocks that a push may change: the chunker's, and its buffer's. -/
def pushCells (b : Nat) (bv : Value) : Nat → Nat → Prop := fun g _ => g = b ∨ some g = bv.ownBlock

theorem ownsRow_keepM {w w' : World} {base e size n : Nat} {v : Value} {xs : List Value} {M : Nat → Nat → Prop} (h : w.ownsRow base e size v n xs) (hc : Chg M w w') (hM : ∀ g, v.ownBlock = some g → ∀ i, ¬ M g i) : w'.ownsRow base e size v n xs := by
  refine ⟨h.1, ?_⟩
  rcases h.2 with hn | ⟨g, cap, cur, rfl, hb, hg, r⟩
  · exact .inl hn
  · exact .inr ⟨g, cap, cur, rfl, hb, (hc.other g (Array.getElem?_eq_some_iff.1 hg).1 (hM g rfl)).trans hg, r⟩
theorem row_type {w : World} {base e size n g : Nat} {v : Value} {xs : List Value} (h : w.ownsRow base e size v n xs) (hg : v.ownBlock = some g) : ∃ cur, w.heap[g]? = some (.cells cur e (0, 0)) := by
  rcases h.2 with ⟨rfl, _⟩ | ⟨g', cap, cur, rfl, hb, hgg, r⟩
  · simp [Value.ownBlock] at hg
  · obtain rfl : g' = g := by simpa [Value.ownBlock] using hg
    exact ⟨cur, hgg⟩
theorem rows_apart {w : World} {base base' e e' size size' n n' : Nat} {v v' : Value} {xs xs' : List Value} (h : w.ownsRow base e size v n xs) (h' : w.ownsRow base' e' size' v' n' xs') (he : e ≠ e') {g : Nat} (hg : v.ownBlock = some g) : some g ≠ v'.ownBlock := by
  obtain ⟨cur, ht⟩ := row_type h hg
  exact not_row_of h' ht he
theorem ChL.keepOf {w w' : World} {xs : List (Option Addr × Nat × Nat)} {css : List (List Nat)} (h : ChL w xs css) (hk : ∀ x ∈ xs, ∀ ad, x.1 = some ad → w'.heap[ad.block]? = w.heap[ad.block]?) : ChL w' xs css :=
  ⟨h.1, fun i hi => by
    obtain ⟨g, cap, h1, h2, h3, cur, f, h4⟩ := h.2 i hi
    have e := hk _ (List.mem_of_getElem? h1) _ rfl
    exact ⟨g, cap, h1, bytesAt_same h2 e, h3, cur, f, e.trans h4⟩⟩
theorem MarkAt.drawn {w : World} {b : Nat} {c : Cut} {ps : List Nat} (h : MarkAt w b c ps) : MarkAt w.drew b c ps := h.keep ((Chg.refl (fun _ _ => False) w).drew) (fun _ _ h => h)

/-- What the chunks of a stream that have been handed out are: they lie apart from the buffer. -/
structure Out (w0 wr : World) (B0 : Nat) (css : List (List Nat)) (bv v : Value) (rows : List (Option Addr × Nat × Nat)) : Prop where
  own : wr.ownsRow w0.heap.size 28 1 v rows.length (rows.map slV)
  are : ChL wr rows css
  apart : ∀ x ∈ rows, ∀ ad, x.1 = some ad → some ad.block ≠ bv.ownBlock ∧ B0 ≤ ad.block ∧ ad.block < wr.heap.size

/-- What a push has done after k bytes of ds behind the first p. -/
structure ChrR (w : World) (B0 b : Nat) (c : Cut) (ds : List Nat) (p : Nat) (bv0 : Value) (k : Nat) (v : Value) (wr : World) : Prop where
  out : ∃ bv rows, ChrAt wr B0 b c (ds.take (p + k)) bv ∧ Out w wr B0 (chunksFrom c ds p k) bv v rows ∧ (∀ g, g < w.heap.size → some g ≠ bv0.ownBlock → some g ≠ bv.ownBlock)
  chg : Chg (fun g i => pushCells b bv0 g i ∨ w.heap.size ≤ g) w wr

/-- What a byte more has changed, ahead of the cut. -/
structure Fed (wr V : World) (B0 b : Nat) (c : Cut) (ds : List Nat) (K s g1 cap1 : Nat) (bv : Value) : Prop where
  mark : MarkAt V b c (ds.take (K + 1))
  buf : V.cell? ⟨b, 331, none⟩ = some (.slice (some ⟨g1, 0, none⟩) (K + 1 - s) cap1)
  free : V.frozen? ⟨b, 331, none⟩ = false
  row : V.ownsRow B0 5 1 (.slice (some ⟨g1, 0, none⟩) (K + 1 - s) cap1) (K + 1 - s) (bvals ((ds.take (K + 1)).drop s))
  chg : Chg (fun g i => (g = b ∧ 256 ≤ i) ∨ some g = bv.ownBlock ∨ wr.heap.size ≤ g) wr V
  lies : some g1 = bv.ownBlock ∨ wr.heap.size ≤ g1

theorem fed_pack {w wr V : World} {B0 b : Nat} {c : Cut} {ds : List Nat} {p k s g1 cap1 : Nat} {bv0 bv v : Value} {rows : List (Option Addr × Nat × Nat)}
    (hc : Chg (fun g i => pushCells b bv0 g i ∨ w.heap.size ≤ g) w wr) (hA : ChrAt wr B0 b c (ds.take (p + k)) bv) (hO : Out w wr B0 (chunksFrom c ds p k) bv v rows) (h5 : ∀ g, g < w.heap.size → some g ≠ bv0.ownBlock → some g ≠ bv.ownBlock)
    (F : Fed wr V B0 b c ds (p + k) s g1 cap1 bv) :
    Chg (fun g i => pushCells b bv0 g i ∨ w.heap.size ≤ g) w V ∧ Out w V B0 (chunksFrom c ds p k) (.slice (some ⟨g1, 0, none⟩) (p + k + 1 - s) cap1) v rows ∧ (∀ g, g < w.heap.size → some g ≠ bv0.ownBlock → g ≠ g1) ∧ (∃ cc f, V.heap[b]? = some (.cells cc 84 f)) := by
  have hsz := hc.size
  obtain ⟨cc, f, ht⟩ := hA.type
  have hcells := F.chg.cells
  have hV := F.chg.size
  refine ⟨hc.trans (F.chg.mono fun g i hg hm => ?_), ⟨ownsRow_keepM hO.own F.chg fun g hg i hm => ?_, hO.are.keepOf fun x hx ad e => ?_, fun x hx ad e => ?_⟩, fun g hg h e => ?_, ?_⟩
  · rcases hm with ⟨rfl, _⟩ | h | h
    · exact .inl (.inl rfl)
    · by_cases hlt : g < w.heap.size
      · by_cases e : some g = bv0.ownBlock
        · exact .inl (.inr e)
        · exact absurd h (h5 g hlt e)
      · exact .inr (by omega)
    · exact .inr (by omega)
  · have hl := (hO.own.lt g hg).2
    rcases hm with ⟨rfl, _⟩ | h | h
    · exact not_row_of hO.own ht (by decide) hg.symm
    · exact rows_apart hO.own hA.row (by decide) hg h
    · omega
  · obtain ⟨h1, h2, h3⟩ := hO.apart x hx ad e
    refine F.chg.other _ h3 fun i hm => ?_
    rcases hm with ⟨hb, _⟩ | h | h
    · obtain ⟨i, hi, rfl⟩ := List.getElem_of_mem hx
      obtain ⟨g, cap, k1, k2, k3, cur, f', k4⟩ := hO.are.2 i (by rw [← hO.are.1]; exact hi)
      rw [List.getElem?_eq_getElem hi, Option.some.injEq] at k1
      rw [k1] at e
      cases e
      have hb' : g = b := hb
      rw [hb', ht] at k4
      cases k4
    · exact h1 h
    · omega
  · obtain ⟨h1, h2, h3⟩ := hO.apart x hx ad e
    refine ⟨fun e' => ?_, h2, by omega⟩
    have e'' : ad.block = g1 := by simpa [Value.ownBlock] using e'
    rcases F.lies with h | h
    · rw [e''] at h1; exact h1 h
    · omega
  · rcases F.lies with h' | h'
    · exact h5 g hg h (e ▸ h')
    · omega
  · have hlt := (Array.getElem?_eq_some_iff.1 ht).1
    have h0 : ¬ ((b = b ∧ 256 ≤ 0) ∨ some b = bv.ownBlock ∨ wr.heap.size ≤ b) := fun hm => by
      rcases hm with h | h | h
      · omega
      · exact not_row_of hA.row ht (by decide) h
      · omega
    obtain ⟨c', h1, _⟩ := F.chg.cells b ⟨0, h0⟩ _ _ _ ht
    exact ⟨_, _, h1⟩

theorem chrR_stay {w wr V : World} {B0 b : Nat} {c : Cut} {ds : List Nat} {p k g1 cap1 : Nat} {bv0 bv v : Value} {rows : List (Option Addr × Nat × Nat)}
    (hc : Chg (fun g i => pushCells b bv0 g i ∨ w.heap.size ≤ g) w wr) (hA : ChrAt wr B0 b c (ds.take (p + k)) bv) (hO : Out w wr B0 (chunksFrom c ds p k) bv v rows) (h5 : ∀ g, g < w.heap.size → some g ≠ bv0.ownBlock → some g ≠ bv.ownBlock)
    (F : Fed wr V B0 b c ds (p + k) (startS c ds (p + k)) g1 cap1 bv) (hcut : cutS c ds (p + k) = false) (hlt : p + k < ds.length) (hx : ∀ x ∈ ds, x < 256) : ChrR w B0 b c ds p bv0 (k + 1) v V := by
  obtain ⟨k1, k2, k3, k4⟩ := fed_pack hc hA hO h5 F
  have e1 : (ds.take (p + (k + 1))).length = p + k + 1 := by rw [List.length_take]; omega
  have e2 : startS c (ds.take (p + (k + 1))) (p + k + 1) = startS c ds (p + k) := by rw [startS_take c ds _ _ (by omega), startS_no hcut]
  have e3 : chunksFrom c ds p (k + 1) = chunksFrom c ds p k := by rw [chunksFrom, if_neg (by simp [hcut]), List.append_nil]
  refine ⟨⟨_, rows, ⟨F.mark, F.buf, F.free, ?_, fun x h => hx x (List.mem_of_mem_take h), k4⟩, by rw [e3]; exact k2, fun g hg h => ?_⟩, k1⟩
  · rw [e1, e2, List.length_drop, e1]; exact F.row
  · have := k3 g hg h; simpa [Value.ownBlock] using this

theorem chrR_cut {w wr V V8 : World} {B0 b : Nat} {c : Cut} {ds : List Nat} {p k g1 cap1 : Nat} {bv0 bv v v8 : Value} {rows : List (Option Addr × Nat × Nat)} {n8 : Nat}
    (hc : Chg (fun g i => pushCells b bv0 g i ∨ w.heap.size ≤ g) w wr) (hA : ChrAt wr B0 b c (ds.take (p + k)) bv) (hO : Out w wr B0 (chunksFrom c ds p k) bv v rows) (h5 : ∀ g, g < w.heap.size → some g ≠ bv0.ownBlock → some g ≠ bv.ownBlock)
    (F : Fed wr V B0 b c ds (p + k) (startS c ds (p + k)) g1 cap1 bv) (hcut : cutS c ds (p + k) = true) (hlt : p + k < ds.length) (hx : ∀ x ∈ ds, x < 256) (hl : ds.length ≤ 100000)
    (h8 : Chg (fun g i => (g = b ∧ i = 331) ∨ some g = v.ownBlock ∨ V.heap.size ≤ g) V V8) (hb8 : V8.cell? ⟨b, 331, none⟩ = some (.slice none 0 0)) (hf8 : V8.frozen? ⟨b, 331, none⟩ = false) (hn : n8 = rows.length + 1)
    (ho8 : V8.ownsRow w.heap.size 28 1 v8 n8 (rows.map slV ++ [.slice (some ⟨g1, 0, none⟩) (p + k + 1 - startS c ds (p + k)) cap1])) : ChrR w B0 b c ds p bv0 (k + 1) v8 V8 := by
  obtain ⟨k1, k2, k3, k4⟩ := fed_pack hc hA hO h5 F
  subst hn
  obtain ⟨cc, f, ht⟩ := k4
  have hsz := k1.size
  have hV := h8.size
  have hblt := (Array.getElem?_eq_some_iff.1 ht).1
  have hbv : some b ≠ v.ownBlock := not_row_of k2.own ht (by decide)
  have e1 : (ds.take (p + (k + 1))).length = p + k + 1 := by rw [List.length_take]; omega
  have e2 : startS c (ds.take (p + (k + 1))) (p + k + 1) = p + k + 1 := by rw [startS_take c ds _ _ (by omega), startS_yes hcut]
  have e3 : chunksFrom c ds p (k + 1) = chunksFrom c ds p k ++ [(ds.take (p + k + 1)).drop (startS c ds (p + k))] := by rw [chunksFrom, if_pos hcut]
  have e4 : (ds.take (p + (k + 1))).drop (p + k + 1) = [] := List.drop_of_length_le (by omega)
  have hs := startS_le c ds (p + k)
  obtain ⟨cur1, ht1⟩ := row_type F.row (g := g1) rfl
  have hg1 := (Array.getElem?_eq_some_iff.1 ht1).1
  have hg1B : B0 ≤ g1 := (F.row.lt g1 rfl).1
  have hsame : ∀ g, g < V.heap.size → g ≠ b → some g ≠ v.ownBlock → V8.heap[g]? = V.heap[g]? := fun g h1 h2 h3 => h8.other g h1 fun i hm => by
    rcases hm with ⟨h, _⟩ | h | h
    · exact h2 h
    · exact h3 h
    · omega
  have hrows : ∀ x ∈ rows, ∀ ad, x.1 = some ad → V8.heap[ad.block]? = V.heap[ad.block]? := fun x hx ad e => by
    obtain ⟨i, hi, rfl⟩ := List.getElem_of_mem hx
    obtain ⟨g, cap, j1, j2, j3, cur, f', j4⟩ := k2.are.2 i (by rw [← k2.are.1]; exact hi)
    rw [List.getElem?_eq_getElem hi, Option.some.injEq] at j1
    rw [j1] at e
    cases e
    refine hsame _ (Array.getElem?_eq_some_iff.1 j4).1 ?_ (not_row_of k2.own j4 (by decide))
    intro hb
    have hb' : g = b := hb
    rw [hb', ht] at j4
    cases j4
  have hn1 : some g1 ≠ v.ownBlock := not_row_of k2.own ht1 (by decide)
  have hn2 : g1 ≠ b := by rintro rfl; rw [ht] at ht1; cases ht1
  have hs1 := hsame g1 hg1 hn2 hn1
  obtain ⟨hlen, a1, cap2, hv1, hcap, _, hby, _⟩ := bytes_of_own F.row (fun x h => hx x (List.mem_of_mem_take (List.mem_of_mem_drop h))) (by rw [List.length_drop, List.length_take]; unfold maxLen; omega)
  simp only [Value.slice.injEq] at hv1
  obtain ⟨rfl, _, rfl⟩ := hv1
  have hby' := bytesAt_same hby hs1
  refine ⟨⟨.slice none 0 0, rows ++ [(some ⟨g1, 0, none⟩, p + k + 1 - startS c ds (p + k), cap1)], ⟨F.mark.keep h8 fun i hi hm => ?_, hb8, hf8, ?_, fun x h => hx x (List.mem_of_mem_take h), ?_⟩, ⟨?_, ?_, fun x hxm ad e => ?_⟩, fun g hg h => by simp [Value.ownBlock]⟩, k1.trans (h8.mono fun g i hg hm => ?_)⟩
  · rcases hm with ⟨_, h⟩ | h | h
    · omega
    · exact hbv h
    · omega
  · have e5 : p + (k + 1) = p + k + 1 := rfl
    rw [e1, e2, e4]; exact World.ownsRow_nil _ _ _ _
  · obtain ⟨c', h1, _⟩ := h8.cells b ⟨0, fun hm => by
      rcases hm with ⟨_, h⟩ | h | h
      · omega
      · exact hbv h
      · omega⟩ _ _ _ ht
    exact ⟨_, _, h1⟩
  · rw [List.map_append, List.length_append]; exact ho8
  · rw [e3]
    have := (k2.are.keepOf hrows).snoc hby' hcap ⟨_, _, hs1.trans ht1⟩
    rw [← hlen] at this
    exact this
  · refine ⟨by simp [Value.ownBlock], ?_⟩
    rcases List.mem_append.1 hxm with h | h
    · have := k2.apart x h ad e; omega
    · rw [List.mem_singleton] at h
      subst h
      cases e
      show B0 ≤ g1 ∧ g1 < _
      omega
  · rcases hm with ⟨rfl, _⟩ | h | h
    · exact .inl (.inl rfl)
    · exact .inr (k2.own.lt g h.symm).1
    · exact .inr (by omega)

theorem drop_take_snoc (ds : List Nat) (k s : Nat) (h : k < ds.length) (hs : s ≤ k) : (ds.take (k + 1)).drop s = (ds.take k).drop s ++ [ds.getD k 0] := by
  rw [← take_snoc ds k h, List.drop_append_of_le_length (by rw [List.length_take]; omega)]
theorem bvals_snoc (bs : List Nat) (x : Nat) : bvals (bs ++ [x]) = bvals bs ++ [.int .u8 (x : Int)] := by simp [bvals]

theorem bytesAt_chg {w w' : World} {a : Option Addr} {bs : List Nat} {M : Nat → Nat → Prop} (h : BytesAt w a bs) (hc : Chg M w w') (hM : ∀ ad, a = some ad → ∀ i, ¬ M ad.block i) : BytesAt w' a bs := by
  refine ⟨?_, h.2⟩
  rcases h.1 with e | ⟨b, o, e, hcell⟩
  · exact .inl e
  · exact .inr ⟨b, o, e, fun i hi => hc.cell (hcell i hi) (hM _ e _)⟩
theorem chr_row {w : World} {B0 b : Nat} {c : Cut} {ds : List Nat} {n : Nat} {bv : Value} (h : ChrAt w B0 b c (ds.take n) bv) (hn : n ≤ ds.length) : w.ownsRow B0 5 1 bv (n - startS c ds n) (bvals ((ds.take n).drop (startS c ds n))) := by
  have e1 : (ds.take n).length = n := by rw [List.length_take]; omega
  have := h.row
  rw [e1, startS_take c ds n n (Nat.le_refl _), List.length_drop, e1] at this
  exact this
theorem chr_not_row {w : World} {B0 b : Nat} {c : Cut} {ps : List Nat} {bv : Value} (h : ChrAt w B0 b c ps bv) : some b ≠ bv.ownBlock := by
  obtain ⟨cc, f, ht⟩ := h.type
  exact not_row_of h.row ht (by decide)

theorem push_kept {wr w4 : World} {b : Nat} {bv : Value} {row : Option Nat} {tmp : Obj} (hb : wr.cell? ⟨b, 331, none⟩ = some bv) (hf : wr.frozen? ⟨b, 331, none⟩ = false) (hg : (wr.alloc tmp).grownBy w4 row) (hn : some b ≠ row) : w4.cell? ⟨b, 331, none⟩ = some bv ∧ w4.frozen? ⟨b, 331, none⟩ = false := by
  have hlt := World.block_lt_of_cell? wr _ hb
  have h : w4.heap[b]? = wr.heap[b]? := (hg.block b (by simp; exact Nat.lt_succ_of_lt hlt) hn).trans (Below.heap_alloc _ _ _ hlt)
  exact ⟨(World.cell?_of_block (a := ⟨b, 331, none⟩) h).trans hb, (World.frozen?_of_block (a := ⟨b, 331, none⟩) h).trans hf⟩
theorem fed_pre {wr w4 : World} {B0 b : Nat} {c : Cut} {ds : List Nat} {K : Nat} {bv v' : Value} {tmp : Obj} (hA : ChrAt wr B0 b c (ds.take K) bv) (hT : TabAt 0 Lib.deBruijn64tab wr) (hpos : 0 < B0) (hbB : B0 ≤ b) (hB : B0 ≤ wr.heap.size)
    (hgr : (wr.alloc tmp).grownBy w4 bv.ownBlock) {n1 : Nat} {ys : List Value} (ho : w4.ownsRow B0 5 1 v' n1 ys) :
    MarkAt (w4.setCell ⟨b, 331, none⟩ v') b c (ds.take K) ∧ (w4.setCell ⟨b, 331, none⟩ v').cell? ⟨b, 331, none⟩ = some v' ∧ (w4.setCell ⟨b, 331, none⟩ v').frozen? ⟨b, 331, none⟩ = false ∧ (w4.setCell ⟨b, 331, none⟩ v').cell? ⟨b, 325, none⟩ = some (.int .i64 c.mx) ∧
      (w4.setCell ⟨b, 331, none⟩ v').ownsRow B0 5 1 v' n1 ys ∧ Chg (fun g i => (g = b ∧ i = 331) ∨ some g = bv.ownBlock ∨ wr.heap.size ≤ g) wr (w4.setCell ⟨b, 331, none⟩ v') ∧ TabAt 0 Lib.deBruijn64tab (w4.setCell ⟨b, 331, none⟩ v') ∧ some b ≠ v'.ownBlock := by
  obtain ⟨cc, f, ht⟩ := hA.type
  have hlt := (Array.getElem?_eq_some_iff.1 ht).1
  have hne : some b ≠ bv.ownBlock := not_row_of hA.row ht (by decide)
  have hc4 : Chg (fun g i => (g = b ∧ i = 331) ∨ some g = bv.ownBlock ∨ wr.heap.size ≤ g) wr w4 :=
    ((Chg.alloc1 wr _).trans (Chg.of_grown (M := fun g i => (g = b ∧ i = 331) ∨ some g = bv.ownBlock ∨ wr.heap.size ≤ g) hgr (fun g _ e => .inr (.inl e.symm))))
  have hn : ∀ i, i ≠ 331 → ¬ ((b = b ∧ i = 331) ∨ some b = bv.ownBlock ∨ wr.heap.size ≤ b) := fun i hi hm => by
    rcases hm with ⟨_, h⟩ | h | h
    · exact hi h
    · exact hne h
    · omega
  obtain ⟨kb, kf⟩ := push_kept hA.buf hA.free hgr hne
  have hm4 : MarkAt w4 b c (ds.take K) := hA.mark.keep hc4 fun i hi => hn i (by omega)
  have hc5 := hc4.setCell (b := b) (o := 331) v' (.inl ⟨rfl, rfl⟩)
  have hm5 : MarkAt (w4.setCell ⟨b, 331, none⟩ v') b c (ds.take K) := hA.mark.keep hc5 fun i hi => hn i (by omega)
  obtain ⟨cc4, ht4, _⟩ := hc4.cells b ⟨0, hn 0 (by omega)⟩ _ _ _ ht
  have hne' : some b ≠ v'.ownBlock := not_row_of ho ht4 (by decide)
  refine ⟨hm5, World.cell?_setCell_same _ _ _ kb, by rw [World.frozen?_setCell]; exact kf, hm5.mx, ownsRow_keepM ho (Chg.setCell1 (M := fun g _ => g = b) w4 b 331 v' rfl) fun g hg i hm => hne' (by rw [hg, hm]), hc5, tabAt_chg hT hc5 fun i hm => ?_, hne'⟩
  rcases hm with ⟨h, _⟩ | h | h
  · omega
  · have := (hA.row.lt 0 h.symm).1; omega
  · omega

theorem cut_kept {V V8 : World} {b : Nat} {v x : Value} {tmp : Obj} (hb : V.cell? ⟨b, 331, none⟩ = some x) (hf : V.frozen? ⟨b, 331, none⟩ = false) (hne : some b ≠ v.ownBlock) (hgr : ((V.setCell ⟨b, 331, none⟩ (.slice none 0 0)).alloc tmp).grownBy V8 v.ownBlock) :
    Chg (fun g i => (g = b ∧ i = 331) ∨ some g = v.ownBlock ∨ V.heap.size ≤ g) V V8 ∧ V8.cell? ⟨b, 331, none⟩ = some (.slice none 0 0) ∧ V8.frozen? ⟨b, 331, none⟩ = false := by
  obtain ⟨k1, k2⟩ := push_kept (World.cell?_setCell_same _ _ _ hb) (by rw [World.frozen?_setCell]; exact hf) hgr hne
  exact ⟨(((Chg.refl _ V).setCell _ (.inl ⟨rfl, rfl⟩)).alloc _).trans (Chg.of_grown hgr (fun g _ e => .inr (.inl e.symm))), k1, k2⟩

/-- Behind the step. -/
theorem fed_of {wr V V2 : World} {B0 b : Nat} {c : Cut} {ds : List Nat} {K s g1 cap1 n1 : Nat} {bv : Value} {tmp : Nat}
    (hbuf : V.cell? ⟨b, 331, none⟩ = some (.slice (some ⟨g1, 0, none⟩) n1 cap1)) (hfree : V.frozen? ⟨b, 331, none⟩ = false) (ho : V.ownsRow B0 5 1 (.slice (some ⟨g1, 0, none⟩) n1 cap1) n1 (bvals ((ds.take (K + 1)).drop s)))
    (hc : Chg (fun g i => (g = b ∧ i = 331) ∨ some g = bv.ownBlock ∨ wr.heap.size ≤ g) wr V) (hn : n1 = K + 1 - s) (hne : some b ≠ (Value.slice (some ⟨g1, 0, none⟩) n1 cap1).ownBlock) (hl : some g1 = bv.ownBlock ∨ some g1 = some tmp) (ht : wr.heap.size ≤ tmp)
    (hm : MarkAt V2 b c (ds.take (K + 1))) (h2 : Chg (markCells b) V V2) : Fed wr V2 B0 b c ds K s g1 cap1 bv := by
  subst hn
  refine ⟨hm, h2.cell hbuf fun h => by have := h.2.2; omega, (h2.frozen hbuf ⟨331, fun h => by have := h.2.2; omega⟩ 331).trans hfree, ownsRow_keepM ho h2 fun g hg i h => hne (by rw [hg, h.1]), ?_, ?_⟩
  · exact (hc.mono fun g i _ h => by
      rcases h with ⟨h, e⟩ | h
      · exact .inl ⟨h, by omega⟩
      · exact .inr h).trans (h2.mono fun g i _ h => .inl ⟨h.1, h.2.1⟩)
  · rcases hl with h | h
    · exact .inl h
    · have e : g1 = tmp := by simpa using h
      exact .inr (by omega)

def ChrRel (w : World) (B0 b : Nat) (c : Cut) (ds : List Nat) (p n : Nat) (bv0 v i : Value) (wr : World) : Prop := ∃ k : Nat, k ≤ n ∧ i = .int .i64 k ∧ ChrR w B0 b c ds p bv0 k v wr

set_option maxRecDepth 100000 in
set_option maxHeartbeats 1000000 in
theorem chrPush_any (B0 b : Nat) (c : Cut) (hk : c.Ok) (ps xs : List Nat) (bv0 : Value) (a : Option Addr) (cap : Nat) (hl : ps.length + xs.length ≤ 100000) (w : World) (h : ChrAt w B0 b c ps bv0) (hB0 : B0 ≤ w.heap.size) (hbB : B0 ≤ b) (hx : BytesAt w a xs) (hxb : ∀ ad, a = some ad → ad.block ≠ b ∧ some ad.block ≠ bv0.ownBlock) (hT : TabAt 0 Lib.deBruijn64tab w) (hpos : 0 < B0) :
    Calls Tryd.prog 42 #[.pointer (some ⟨b, 0, none⟩), .slice a xs.length cap] w fun e w' => ∃ v, e = .returned v ∧ ChrR w B0 b c (ps ++ xs) ps.length bv0 xs.length v w' := by
  have HH := Lib.hid h
  have HX := Lib.hid hx
  have HXB := Lib.hid hxb
  have HT := Lib.hid hT
  have HK := Lib.hid hk
  clear h hx hxb hT hk
  obtain ⟨ds, hds⟩ : ∃ ds, ds = ps ++ xs := ⟨_, rfl⟩
  have HDS := Lib.hid hds
  have HX8 : Hid (∀ x ∈ ds, x < 256) := fun x hxm => by rw [hds] at hxm; exact (List.mem_append.1 hxm).elim (HH.out.bytes x) (HX.out.2.1 x)
  have hdl : ds.length = ps.length + xs.length := by rw [hds, List.length_append]
  rw [← hds]
  clear hds
  obtain ⟨i0, hi, hz0, hz1, hz2⟩ := info_parts Tryd.info5
  have HI := Lib.hid hi
  have HZ0 := Lib.hid hz0
  have HZ1 := Lib.hid hz1
  have HZ2 := Lib.hid hz2
  clear hi hz0 hz1 hz2
  obtain ⟨j0, hi, hz0, hz1, hz2⟩ := info_parts Tryd.info28
  have GI := Lib.hid hi
  have GZ0 := Lib.hid hz0
  have GZ1 := Lib.hid hz1
  have GZ2 := Lib.hid hz2
  clear hi hz0 hz1 hz2
  go_enter Tryd.func42, Tryd.ntmps42
  go_wp2_with fail
  go_loopw [5, 10] (fun v i wr => ChrRel w B0 b c ds ps.length xs.length bv0 v i wr) (fun _ i _ => xs.length - (intOf i).toNat)
  case atStart =>
    have e0 : ds.take (ps.length + 0) = ps := by rw [HDS.out, Nat.add_zero, List.take_left]
    refine ⟨0, Nat.zero_le _, rfl, ⟨bv0, [], by rw [e0]; exact HH.out, ⟨World.ownsRow_nil _ _ _ _, ChL.nil _, fun x hx => (by cases hx)⟩, fun g _ h => h⟩, Chg.refl _ _⟩
  case round =>
    obtain ⟨k, hk, rfl, hR⟩ := hrel
    have HR := Lib.hid hR
    clear hR
    by_cases hlt : k < xs.length
    · obtain ⟨bv, rows, h1, h2, h5⟩ := HR.out.out
      have HC1 := Lib.hid h1
      have HC2 := Lib.hid h2
      have HC5 := Lib.hid h5
      clear h1 h2 h5
      have hbr : BytesAt wr a xs := bytesAt_chg HX.out HR.out.chg (fun ad e i hm => by
        obtain ⟨k1, k2⟩ := HXB.out ad e
        obtain ⟨d, o, e', hcell⟩ := HX.out.some (by omega)
        rw [e] at e'
        have hlt := World.block_lt_of_cell? w _ (hcell 0 (by omega))
        cases e'
        rcases hm with (hm | hm) | hm
        · exact k1 hm
        · exact k2 hm
        · exact absurd hlt (by simpa using hm))
      have HT2 : Hid (TabAt 0 Lib.deBruijn64tab wr) := tabAt_chg HT.out HR.out.chg (fun i hm => by
        rcases hm with (hm | hm) | hm
        · omega
        · have := (HH.out.row.lt _ hm.symm).1; omega
        · have := tabAt_size HT.out; omega)
      obtain ⟨d, o, rfl, hcell⟩ := hbr.some (by omega)
      have hck := hcell k hlt
      have hx0 := hbr.getD_lt k hlt
      clear hcell hbr
      have hlt2 : ps.length + k < ds.length := by omega
      have hxd : xs.getD k 0 = ds.getD (ps.length + k) 0 := by
        rw [HDS.out, List.getD_eq_getElem?_getD, List.getD_eq_getElem?_getD, List.getElem?_append_right (by omega), Nat.add_sub_cancel_left]
      obtain ⟨x, hxe⟩ : ∃ x, x = xs.getD k 0 := ⟨_, rfl⟩
      rw [← hxe] at hck hx0
      have HXE := Lib.hid (hxe.trans hxd)
      clear hxe hxd
      have hbuf := HC1.out.buf
      have hfree := HC1.out.free
      have hsle := startS_le c ds (ps.length + k)
      have HROW := Lib.hid (chr_row HC1.out (by omega))
      have HNR := Lib.hid (chr_not_row HC1.out)
      have hwsz : B0 ≤ wr.heap.size := Nat.le_trans hB0 HR.out.chg.size
      generalize hs : startS c ds (ps.length + k) = s at hsle HROW
      have HSS := Lib.hid hs
      clear hs
      go_wp2_with (at_builtin; refine wpList_append_own_at _ rfl _ _ 28 rfl B0 5 i0 (.int .u8 0) 1 1 Tryd.underlying28 HI.out HZ0.out HZ1.out HZ2.out rfl (by decide) _ _ _ rfl (HROW.out.alloc _) ⟨wr.heap.size, 0, none⟩ 1 1 [.int .u8 (x : Int)] rfl rfl (cell_one_new _ _ _) (by simp [Value.oneCell']) (by unfold maxLen; omega) (by omega) (by simp; omega) ?_; intro v' w4 hown4 hgr4 _ hat4; obtain ⟨g1, cap1, rfl⟩ := ownsRow_succ hown4; obtain ⟨hc4, hf4⟩ := push_kept hbuf hfree hgr4 HNR.out; have HOW := Lib.hid hown4; have HGR := Lib.hid hgr4; have HAT := Lib.hid hat4; clear hown4 hgr4 hat4)
      have HGR2 : Hid ((wr.alloc (.cells #[.int .u8 (x : Int)] 5)).grownBy w4 bv.ownBlock) := HGR.out
      have HAT2 : Hid (some g1 = bv.ownBlock ∨ some g1 = some (wr.heap.size + 1)) := by have := HAT.out; rw [World.size_alloc] at this; exact this
      clear HGR HAT
      generalize hn1 : ps.length + k - s + 1 = n1 at HOW ⊢
      have HOW2 : Hid (w4.ownsRow B0 5 1 (.slice (some ⟨g1, 0, none⟩) n1 cap1) n1 (bvals ((ds.take (ps.length + k + 1)).drop s))) := by
        have e : (.int .u8 (x : Int) : Value) = .int .u8 ((ds.getD (ps.length + k) 0 : Nat) : Int) := by rw [HXE.out]
        have := HOW.out
        rw [e, ← bvals_snoc, ← drop_take_snoc ds _ _ hlt2 hsle] at this
        exact this
      have HF := Lib.hid (fed_pre HC1.out HT2.out hpos hbB hwsz HGR2.out HOW2.out)
      refine wp_over (fun V => Hid (MarkAt V b c (ds.take (ps.length + k))) ∧ V.cell? ⟨b, 331, none⟩ = some (.slice (some ⟨g1, 0, none⟩) n1 cap1) ∧ V.frozen? ⟨b, 331, none⟩ = false ∧ V.cell? ⟨b, 325, none⟩ = some (.int .i64 c.mx) ∧
        Hid (V.ownsRow B0 5 1 (.slice (some ⟨g1, 0, none⟩) n1 cap1) n1 (bvals ((ds.take (ps.length + k + 1)).drop s))) ∧ Hid (Chg (fun g i => (g = b ∧ i = 331) ∨ some g = bv.ownBlock ∨ wr.heap.size ≤ g) wr V) ∧ Hid (TabAt 0 Lib.deBruijn64tab V) ∧ Hid (some b ≠ (Value.slice (some ⟨g1, 0, none⟩) n1 cap1).ownBlock)) HF.out ?_
      rintro V ⟨HM, hbufV, hfreeV, hmxV, HOV, HCV, HTV, HNV⟩
      clear HF HOW2 HOW HGR2 hc4 hf4
      have hn1' : n1 = ps.length + k + 1 - s := by omega
      have HN1 := Lib.hid hn1'
      clear hn1 hn1'
      have HFED : ∀ V2, Hid (MarkAt V2 b c (ds.take (ps.length + k + 1)) → Chg (markCells b) V.drew V2 → Fed wr V2 B0 b c ds (ps.length + k) s g1 cap1 bv) := fun V2 hm h2 =>
        fed_of hbufV hfreeV HOV.out HCV.out HN1.out HNV.out HAT2.out (Nat.le_succ _) hm (((Chg.refl _ V).drew).trans h2)
      have hmxle : (c.mx : Int) ≤ 32768 := by have := HK.out.most; omega
      have hcutE : cutS c ds (ps.length + k) = (prim c ds (ps.length + k + 1) || decide (s + c.mx = ps.length + k + 1)) := by unfold cutS; rw [HSS.out]
      have HCE := Lib.hid hcutE
      clear hcutE
      cases hp : prim c ds (ps.length + k + 1) with
      | true =>
        go_upto_region 6 with fail
        refine Kit.wp_region_mid (fun _ => True) [0, 1, 2, 3] 4 [5, 6, 7, 8, 9, 10, 11, 12, 13, 14, 15, 16, 17, 18] (by kernel_rfl) (by kernel_rfl) (by kernel_rfl) (by kernel_rfl) trivial ?_
        repeat (refine Kit.heads_cons (by rfl) (.inl ⟨by rfl, fun w' hS => by (dsimp only at hS); go_simp; (try with_reducible rfl)⟩) ?_; simp only [Act.put, List.setIfInBounds_toArray, List.set_cons_zero, List.set_cons_succ])
        refine Kit.heads_nil (Kit.mid_cons (by rfl) rfl fun K hK => ?_)
        go_simp
        go_at_call 60
        refine (step_at b c HK.out ds (ps.length + k) hlt2 x HXE.out hx0 (by omega) _ HM.out.drawn HTV.out).mono ?_
        rintro e w6 ⟨rfl, hm6, hc6⟩
        have HFF := Lib.hid ((HFED w6).out hm6 hc6)
        clear hm6 hc6
        rw [hp]
        refine hK _ _ trivial ?_
        clear hK K
        refine Kit.heads_cons (by rfl) (.inl ⟨by rfl, fun w' hS => by go_simp; (try with_reducible rfl)⟩) ?_
        simp only [Act.put, List.setIfInBounds_toArray, List.set_cons_zero, List.set_cons_succ]
        repeat (refine Kit.heads_cons (by rfl) (.inr ⟨by rfl, rfl⟩) ?_; simp only [Act.put, List.setIfInBounds_toArray, List.set_cons_zero, List.set_cons_succ])
        repeat (refine Kit.heads_cons (by rfl) (.inl ⟨by rfl, fun w' hS => by (dsimp only at hS); go_simp; (try with_reducible rfl)⟩) ?_; simp only [Act.put, List.setIfInBounds_toArray, List.set_cons_zero, List.set_cons_succ])
        refine Kit.heads_nil ?_
        have HCY : Hid (cutS c ds (ps.length + k) = true) := by have := HCE.out; rw [hp] at this; exact this
        clear hp
        have HSSF : Hid (Fed wr w6 B0 b c ds (ps.length + k) (startS c ds (ps.length + k)) g1 cap1 bv) := by rw [HSS.out]; exact HFF.out
        have HPK := Lib.hid (fed_pack HR.out.chg HC1.out HC2.out HC5.out HSSF.out)
        have hrl : rows.length ≤ k := by rw [HC2.out.are.1]; exact chunksFrom_length _ _ _ _
        have hbv : some b ≠ u5.ownBlock := by obtain ⟨_, _, h⟩ := HPK.out.2.2.2; exact not_row_of HPK.out.2.1.own h (by decide)
        have HBV := Lib.hid hbv
        have hsz6 : w.heap.size ≤ w6.heap.size := HPK.out.1.size
        have HO7 := Lib.hid (ownsRow_keepM HPK.out.2.1.own (Chg.setCell1 (M := fun g _ => g = b) w6 b 331 (.slice none 0 0) rfl) fun g hg i hm => HBV.out (by rw [hg, hm]))
        have HB6 := Lib.hid HFF.out.buf
        have HF6 := Lib.hid HFF.out.free
        rw [← HN1.out] at HB6
        clear hbv
        go_wp2_with fail
        refine (take_any w6 b _ _ _ HB6.out HF6.out).mono ?_
        rintro e w7 ⟨rfl, he7⟩
        have HE7 := Lib.hid he7
        have hsz7 : w.heap.size ≤ w7.heap.size := by rw [he7, World.size_setCell]; exact hsz6
        have HO7' : Hid (w7.ownsRow w.heap.size 28 1 u5 rows.length (rows.map slV)) := by rw [he7]; exact HO7.out
        clear he7
        go_wp2_with (at_builtin; refine wpList_append_own _ rfl _ _ 54 rfl w.heap.size 28 j0 (.slice none 0 0) 1 24 Tryd.underlying54 GI.out GZ0.out GZ1.out GZ2.out rfl (by decide) _ _ _ rfl (HO7'.out.alloc _) ⟨w7.heap.size, 0, none⟩ 1 1 [.slice (some ⟨g1, 0, none⟩) n1 cap1] rfl rfl (cell_one_new _ _ _) (by simp [Value.oneCell']) (by unfold maxLen; omega) (by omega) (by simp; omega) ?_; intro v8 w8 hown8 hgr8 _; have HO8 := Lib.hid hown8; have HG8 := Lib.hid hgr8; clear hown8 hgr8)
        have HK8 := Lib.hid (cut_kept (v := u5) HB6.out HF6.out HBV.out (by have := HG8.out; rw [HE7.out] at this; exact this))
        go_roundw
        case rel => exact ⟨k + 1, by omega, by go_num, chrR_cut HR.out.chg HC1.out HC2.out HC5.out HSSF.out HCY.out hlt2 HX8.out (by omega) HK8.out.1 HK8.out.2.1 HK8.out.2.2 rfl (by have h := HO8.out; rw [HN1.out, ← HSS.out] at h; exact h)⟩
        case measure => simp [intOf]; omega
      | false =>
        have hn63 : (n1 : Int) ≤ 100001 := by have := HN1.out; omega
        go_upto_region 6 with fail
        refine Kit.wp_region_mid (fun w' => w'.cell? ⟨b, 331, none⟩ = some (.slice (some ⟨g1, 0, none⟩) n1 cap1) ∧ w'.cell? ⟨b, 325, none⟩ = some (.int .i64 c.mx)) [0, 1, 2, 3] 4 [5, 6, 7, 8, 9, 10, 11, 12, 13, 14, 15, 16, 17, 18] (by kernel_rfl) (by kernel_rfl) (by kernel_rfl) (by kernel_rfl) ⟨hbufV, hmxV⟩ ?_
        repeat (refine Kit.heads_cons (by rfl) (.inl ⟨by rfl, fun w' hS => by (try dsimp only at hS); go_simp; (try with_reducible rfl)⟩) ?_; simp only [Act.put, List.setIfInBounds_toArray, List.set_cons_zero, List.set_cons_succ])
        refine Kit.heads_nil (Kit.mid_cons (by rfl) rfl fun K hK => ?_)
        go_simp
        go_at_call 60
        refine (step_at b c HK.out ds (ps.length + k) hlt2 x HXE.out hx0 (by omega) _ HM.out.drawn HTV.out).mono ?_
        rintro e w6 ⟨rfl, hm6, hc6⟩
        have HFF := Lib.hid ((HFED w6).out hm6 hc6)
        have hq6 : w6.cell? ⟨b, 331, none⟩ = some (.slice (some ⟨g1, 0, none⟩) n1 cap1) ∧ w6.cell? ⟨b, 325, none⟩ = some (.int .i64 c.mx) := ⟨hc6.cell (b := b) (o := 331) hbufV (fun h => by have := h.2.2; omega), hm6.mx⟩
        clear hm6 hc6
        rw [hp]
        refine hK _ _ hq6 ?_
        clear hK K hq6
        repeat (refine Kit.heads_cons (by rfl) (.inl ⟨by rfl, fun w' hS => by (try dsimp only at hS); go_simp; (try with_reducible rfl)⟩) ?_; simp only [Act.put, List.setIfInBounds_toArray, List.set_cons_zero, List.set_cons_succ])
        refine Kit.heads_nil ?_
        by_cases hmm : n1 = c.mx
        · have HCY : Hid (cutS c ds (ps.length + k) = true) := by have := HCE.out; rw [hp, Bool.false_or, decide_eq_true (by have := HN1.out; omega)] at this; exact this
          have hbe : (((n1 : Nat) : Int) == ((c.mx : Nat) : Int)) = true := by simp [hmm]
          rw [hbe]
          clear hp hbe hmm
          have HSSF : Hid (Fed wr w6 B0 b c ds (ps.length + k) (startS c ds (ps.length + k)) g1 cap1 bv) := by rw [HSS.out]; exact HFF.out
          have HPK := Lib.hid (fed_pack HR.out.chg HC1.out HC2.out HC5.out HSSF.out)
          have hrl : rows.length ≤ k := by rw [HC2.out.are.1]; exact chunksFrom_length _ _ _ _
          have hbv : some b ≠ u5.ownBlock := by obtain ⟨_, _, h⟩ := HPK.out.2.2.2; exact not_row_of HPK.out.2.1.own h (by decide)
          have HBV := Lib.hid hbv
          have hsz6 : w.heap.size ≤ w6.heap.size := HPK.out.1.size
          have HO7 := Lib.hid (ownsRow_keepM HPK.out.2.1.own (Chg.setCell1 (M := fun g _ => g = b) w6 b 331 (.slice none 0 0) rfl) fun g hg i hm => HBV.out (by rw [hg, hm]))
          have HB6 := Lib.hid HFF.out.buf
          have HF6 := Lib.hid HFF.out.free
          rw [← HN1.out] at HB6
          clear hbv
          go_wp2_with fail
          refine (take_any w6 b _ _ _ HB6.out HF6.out).mono ?_
          rintro e w7 ⟨rfl, he7⟩
          have HE7 := Lib.hid he7
          have hsz7 : w.heap.size ≤ w7.heap.size := by rw [he7, World.size_setCell]; exact hsz6
          have HO7' : Hid (w7.ownsRow w.heap.size 28 1 u5 rows.length (rows.map slV)) := by rw [he7]; exact HO7.out
          clear he7
          go_wp2_with (at_builtin; refine wpList_append_own _ rfl _ _ 54 rfl w.heap.size 28 j0 (.slice none 0 0) 1 24 Tryd.underlying54 GI.out GZ0.out GZ1.out GZ2.out rfl (by decide) _ _ _ rfl (HO7'.out.alloc _) ⟨w7.heap.size, 0, none⟩ 1 1 [.slice (some ⟨g1, 0, none⟩) n1 cap1] rfl rfl (cell_one_new _ _ _) (by simp [Value.oneCell']) (by unfold maxLen; omega) (by omega) (by simp; omega) ?_; intro v8 w8 hown8 hgr8 _; have HO8 := Lib.hid hown8; have HG8 := Lib.hid hgr8; clear hown8 hgr8)
          have HK8 := Lib.hid (cut_kept (v := u5) HB6.out HF6.out HBV.out (by have := HG8.out; rw [HE7.out] at this; exact this))
          go_roundw
          case rel => exact ⟨k + 1, by omega, by go_num, chrR_cut HR.out.chg HC1.out HC2.out HC5.out HSSF.out HCY.out hlt2 HX8.out (by omega) HK8.out.1 HK8.out.2.1 HK8.out.2.2 rfl (by have h := HO8.out; rw [HN1.out, ← HSS.out] at h; exact h)⟩
          case measure => simp [intOf]; omega
        · have HCY : Hid (cutS c ds (ps.length + k) = false) := by have := HCE.out; rw [hp, Bool.false_or, decide_eq_false (by have := HN1.out; omega)] at this; exact this
          have hbe : (((n1 : Nat) : Int) == ((c.mx : Nat) : Int)) = false := by simp; omega
          rw [hbe]
          clear hp hbe hmm
          have HSSF : Hid (Fed wr w6 B0 b c ds (ps.length + k) (startS c ds (ps.length + k)) g1 cap1 bv) := by rw [HSS.out]; exact HFF.out
          go_wp2_with fail
          go_roundw
          case rel => exact ⟨k + 1, by omega, by go_num, chrR_stay HR.out.chg HC1.out HC2.out HC5.out HSSF.out HCY.out hlt2 HX8.out⟩
          case measure => simp [intOf]; omega
    · have e : k = xs.length := by omega
      subst e
      go_wp2_with fail
      go_ret
      exact ⟨_, rfl, HR.out⟩
end Go.Proofs.YtfnhcjcahcacnaaDoor
