/- Texts Stat of the proof, each as a section; no premises beyond those that each theorem states. -/
import Derived.Test.YtmcbnhkcjhlbaaaGreatDoorP01
set_option linter.unusedVariables false
set_option linter.unusedSimpArgs false
namespace Go.Proofs.YtmcbnhkcjhlbaaaGreatDoor
open Go.RowKit
open Kit (Chg)
open Sha (v)

theorem wpList_copy_cells {P : Program} {w : World} {ops : Array Oper} {rest : List Oper} {o : Oper} {a : Act} {Q : Exit → Act → World → Prop} (hgd : o.guard = none) (d s : Operand) (dT sT : TypeId)
    (ho : o.op = .call { callee := .builtin .copy, args := #[d, s], argTypes := #[dT, sT] }) (elem : TypeId) (hu : P.underlying dT = some (.slice elem)) (hsz : (P.info? elem).map (·.size) = some 1)
    (dp sp : Option Addr) (dLen dCap sLen sCap : Nat) (hd : a.eval d = .slice dp dLen dCap) (hs : a.eval s = .slice sp sLen sCap)
    (g off : Nat) (hg : ∃ cur t, w.heap[g]? = some (.cells cur t (0, 0)) ∧ off + Nat.min sLen dLen ≤ cur.size) (cs : List Value) (hn : cs.length = Nat.min sLen dLen)
    (hpos : 0 < cs.length → dp = some ⟨g, off, none⟩ ∧ ∃ ad, sp = some ad ∧ ∀ j v, cs[j]? = some v → w.cell? (ad.add j) = some v) (h1 : ∀ v ∈ cs, v.oneCell' = true)
    (h : ∀ w', Chg (fun k i => k = g ∧ off ≤ i ∧ i < off + cs.length) w w' → (∀ j v, cs[j]? = some v → w'.cell? ⟨g, off + j, none⟩ = some v) → (∃ cur' t, w'.heap[g]? = some (.cells cur' t (0, 0)) ∧ ∀ cur t, w.heap[g]? = some (.cells cur t (0, 0)) → cur'.size = cur.size) → wpList P ops Q rest (a.put o.dst (goInt cs.length)) w') :
    wpList P ops Q (o :: rest) a w := by
  obtain ⟨cur, t, hgg, hfit⟩ := hg
  by_cases h0 : cs.length = 0
  · obtain rfl : cs = [] := List.eq_nil_of_length_eq_zero h0
    refine wpList_copy_nothing hgd d s dT sT ho elem hu hsz dp sp dLen dCap sLen sCap hd hs (by simpa using hn.symm) ?_
    exact h w (Chg.refl _ _) (fun j v hj => by simp at hj) ⟨cur, t, hgg, fun cur2 t2 h2 => by rw [hgg] at h2; cases h2; rfl⟩
  · obtain ⟨rfl, ad, rfl, hsrc⟩ := hpos (by omega)
    rw [← hn] at hfit
    refine wpList_copy_own hgd d s dT sT ho elem hu hsz g off dLen dCap ad sLen sCap hd hs cur t hgg cs hn hsrc hfit h1 ?_
    have hh := setRow_heap w g cur (cur.toList.take off ++ (cs ++ cur.toList.drop (off + cs.length))).toArray t (0, 0) hgg
    have hsz : (cur.toList.take off ++ (cs ++ cur.toList.drop (off + cs.length))).toArray.size = cur.size := by
      simp only [List.size_toArray, List.length_append, List.length_take, List.length_drop, Array.length_toList]; omega
    have htl : (cur.toList.take off).length = off := by rw [List.length_take, Array.length_toList]; omega
    have hget : ∀ i, ¬ (off ≤ i ∧ i < off + cs.length) → (cur.toList.take off ++ (cs ++ cur.toList.drop (off + cs.length))).toArray[i]? = cur[i]? := fun i hi => by
      rw [List.getElem?_toArray]
      by_cases h2 : i < off
      · rw [List.getElem?_append_left (by omega), List.getElem?_take_of_lt h2, Array.getElem?_toList]
      · rw [List.getElem?_append_right (by omega), htl, List.getElem?_append_right (by omega), List.getElem?_drop, Array.getElem?_toList]
        congr 1; omega
    refine h _ ⟨rfl, rfl, rfl, by simp [World.setRow], fun k hk hM => ?_, fun k hM c e f hc => ?_⟩ (fun j v hj => ?_) ⟨_, t, hh, fun cur2 t2 h2 => by rw [hgg] at h2; cases h2; exact hsz⟩
    · exact setRow_other w g k _ (fun e => hM off ⟨e, Nat.le_refl _, by omega⟩)
    · by_cases hk : k = g
      · subst hk
        rw [hgg] at hc
        cases hc
        exact ⟨_, hh, hsz, fun i hi => hget i (fun hm => hi ⟨rfl, hm.1, hm.2⟩)⟩
      · exact ⟨c, (setRow_other w g k _ hk).trans hc, rfl, fun _ _ => rfl⟩
    · have hj2 : j < cs.length := (List.getElem?_eq_some_iff.1 hj).1
      rw [cell_of_row _ _ _ _ _ _ hh, List.getElem?_toArray, List.getElem?_append_right (by omega), htl, Nat.add_sub_cancel_left, List.getElem?_append_left hj2]
      exact hj

structure StateAt (w : World) (b o : Nat) (ps : List Nat) : Prop where
  row : ∃ R t, w.heap[b]? = some (.cells R t (0, 0)) ∧ o + 73 ≤ R.size
  words : WordsAt w b o (Sha.hs ps ps.length)
  buf : ∀ i, i < 64 → ∃ x : Nat, x < 256 ∧ w.cell? ⟨b, o + 8 + i, none⟩ = some (.int .u8 (x : Int))
  held : ∀ i, i < ps.length % 64 → w.cell? ⟨b, o + 8 + i, none⟩ = some (.int .u8 ((ps.getD (ps.length - ps.length % 64 + i) 0 : Nat) : Int))
  len : w.cell? ⟨b, o + 72, none⟩ = some (.int .i64 (ps.length : Int))
  bytes : ∀ x ∈ ps, x < 256
theorem StateAt.free {w : World} {b o : Nat} {ps : List Nat} (h : StateAt w b o ps) (i : Nat) : w.frozen? ⟨b, i, none⟩ = false := by
  obtain ⟨R, t, hr, _⟩ := h.row
  exact frozen_of_row _ _ _ _ _ hr
theorem StateAt.lt {w : World} {b o : Nat} {ps : List Nat} (h : StateAt w b o ps) : b < w.heap.size := World.block_lt_of_cell? w _ h.len
theorem StateAt.keep {w w' : World} {b o : Nat} {ps : List Nat} {M : Nat → Nat → Prop} (h : StateAt w b o ps) (hc : Chg M w w') (hM : ∀ i, o ≤ i → i < o + 73 → ¬ M b i) : StateAt w' b o ps := by
  obtain ⟨R, t, hr, hs⟩ := h.row
  obtain ⟨R', hr', hs', _⟩ := hc.cells b ⟨o, hM o (by omega) (by omega)⟩ _ _ _ hr
  refine ⟨⟨R', t, hr', by omega⟩, fun i hi => hc.cell (h.words i hi) (hM _ (by omega) (by omega)), fun i hi => ?_, fun i hi => hc.cell (h.held i hi) (hM _ (by omega) (by have := Nat.mod_lt ps.length (show 0 < 64 by decide); omega)), hc.cell h.len (hM _ (by omega) (by omega)), h.bytes⟩
  obtain ⟨x, hx, hcx⟩ := h.buf i hi
  exact ⟨x, hx, hc.cell hcx (hM _ (by omega) (by omega))⟩
theorem StateAt.later {w w' : World} {b o : Nat} {ps : List Nat} (h : StateAt w b o ps) (hb : Below w.heap.size w w') : StateAt w' b o ps :=
  h.keep (Chg.of_below (M := fun _ _ => False) hb) (fun _ _ _ h => h)
def stateCells (b o : Nat) : Nat → Nat → Prop := fun k i => k = b ∧ o ≤ i ∧ i < o + 73

def InitAt (w : World) : Prop := WordsAt w 0 0 Sha.init

def stateRow : Array Value := #[.int .u32 1779033703, .int .u32 3144134277, .int .u32 1013904242, .int .u32 2773480762, .int .u32 1359893119, .int .u32 2600822924, .int .u32 528734635, .int .u32 1541459225] ++ (List.replicate 64 (Value.int .u8 0)).toArray ++ #[.int .i64 0]
theorem stateRow_size : stateRow.size = 73 := rfl
set_option maxRecDepth 100000 in
theorem init_cells (i : Nat) (h : i < 8) : stateRow[i]? = some (.int .u32 (v (Sha.init.list.getD i 0))) := by
  match i, h with
  | 0, _ => rfl
  | 1, _ => rfl
  | 2, _ => rfl
  | 3, _ => rfl
  | 4, _ => rfl
  | 5, _ => rfl
  | 6, _ => rfl
  | 7, _ => rfl
set_option maxRecDepth 100000 in
set_option maxHeartbeats 1000000 in
theorem newState_any (w : World) (hI : InitAt w) : Calls Tryz.prog 36 #[] w fun e w' => e = .returned (.pointer (some ⟨w.heap.size, 0, none⟩)) ∧ w' = w.alloc (.cells stateRow 172) := by
  have c0 := hI 0 (by omega)
  have c1 := hI 1 (by omega)
  have c2 := hI 2 (by omega)
  have c3 := hI 3 (by omega)
  have c4 := hI 4 (by omega)
  have c5 := hI 5 (by omega)
  have c6 := hI 6 (by omega)
  have c7 := hI 7 (by omega)
  rw [show v (Sha.init.list.getD 0 0) = 1779033703 from rfl, Nat.zero_add] at c0
  rw [show v (Sha.init.list.getD 1 0) = 3144134277 from rfl, Nat.zero_add] at c1
  rw [show v (Sha.init.list.getD 2 0) = 1013904242 from rfl, Nat.zero_add] at c2
  rw [show v (Sha.init.list.getD 3 0) = 2773480762 from rfl, Nat.zero_add] at c3
  rw [show v (Sha.init.list.getD 4 0) = 1359893119 from rfl, Nat.zero_add] at c4
  rw [show v (Sha.init.list.getD 5 0) = 2600822924 from rfl, Nat.zero_add] at c5
  rw [show v (Sha.init.list.getD 6 0) = 528734635 from rfl, Nat.zero_add] at c6
  rw [show v (Sha.init.list.getD 7 0) = 1541459225 from rfl, Nat.zero_add] at c7
  clear hI
  go_enter Tryz.func36, Tryz.ntmps36
  go_wp2
  go_ret
  exact ⟨rfl, rfl⟩
theorem stateRow_at (i : Nat) (h : i < 64) : stateRow[8 + i]? = some (.int .u8 ((0 : Nat) : Int)) := by
  have e1 : (#[.int .u32 1779033703, .int .u32 3144134277, .int .u32 1013904242, .int .u32 2773480762, .int .u32 1359893119, .int .u32 2600822924, .int .u32 528734635, .int .u32 1541459225] : Array Value).size = 8 := rfl
  have e2 : (List.replicate 64 (Value.int .u8 0)).toArray.size = 64 := rfl
  unfold stateRow
  rw [Array.getElem?_append_left (by rw [Array.size_append, e1, e2]; omega), Array.getElem?_append_right (by rw [e1]; omega), e1, List.getElem?_toArray, List.getElem?_replicate, if_pos (by omega)]
  rfl
theorem Tryz.al64 : Tryz.prog.arrayLen 162 = 64 := by kernel_rfl
theorem Tryz.el64 : Tryz.prog.elem 162 = 5 := by kernel_rfl
theorem sliceB_l (b o u : Nat) (hu : u < 64) (W : World) : (Instr.sliceAt 162 (.pointer (some ⟨b, o, none⟩)) (some (.int .i64 (u : Int))) none none).run Tryz.prog W = .ok (.slice (some ⟨b, o + u, none⟩) (64 - u) (64 - u)) W := by
  rw [run_sliceAt_array_l W _ _ (by rw [Tryz.al64, Tryz.el64]; exact Tryz.underlying162) .i64 _ (by omega) (by rw [Tryz.al64]; omega), Tryz.al64, Tryz.el64, Tryz.sizeOf5]
  simp only [Result.andThen, slicedAt, Int.toNat_natCast, Nat.mul_one]
  rw [if_neg (by omega), add_none]
theorem sliceB_all (b o : Nat) (W : World) : (Instr.sliceAt 162 (.pointer (some ⟨b, o, none⟩)) none none none).run Tryz.prog W = .ok (.slice (some ⟨b, o, none⟩) 64 64) W := by
  rw [run_sliceAt_array_all W _ _ (by rw [Tryz.al64, Tryz.el64]; exact Tryz.underlying162), Tryz.al64, Tryz.el64, Tryz.sizeOf5]
  simp only [Result.andThen, slicedAt, Nat.zero_mul]
  rw [if_neg (by omega), add_none]
  rfl
theorem state_new {w : World} {N : Nat} {t : TypeId} (hg : w.heap[N]? = some (.cells stateRow t (0, 0))) : StateAt w N 0 [] := by
  refine ⟨⟨_, t, hg, by rw [stateRow_size]; exact Nat.le_refl _⟩, fun i hi => ?_, fun i hi => ⟨0, by omega, ?_⟩, fun i hi => by simp at hi, ?_, by simp⟩
  · rw [Nat.zero_add, cell_of_row _ _ _ _ _ _ hg]; exact init_cells i hi
  · rw [Nat.zero_add, cell_of_row _ _ _ _ _ _ hg]; exact stateRow_at i hi
  · rw [Nat.zero_add, cell_of_row _ _ _ _ _ _ hg]; rfl

structure MidAt (w : World) (b o : Nat) (qs : List Nat) (K : Nat) : Prop where
  row : ∃ R t, w.heap[b]? = some (.cells R t (0, 0)) ∧ o + 73 ≤ R.size
  words : WordsAt w b o (Sha.hs qs K)
  buf : ∀ i, i < 64 → ∃ x : Nat, x < 256 ∧ w.cell? ⟨b, o + 8 + i, none⟩ = some (.int .u8 (x : Int))
  len : w.cell? ⟨b, o + 72, none⟩ = some (.int .i64 (qs.length : Int))
theorem MidAt.free {w : World} {b o : Nat} {qs : List Nat} {K : Nat} (h : MidAt w b o qs K) (i : Nat) : w.frozen? ⟨b, i, none⟩ = false := by
  obtain ⟨R, t, hr, _⟩ := h.row
  exact frozen_of_row _ _ _ _ _ hr
theorem MidAt.block {w w' : World} {b o : Nat} {qs : List Nat} {K : Nat} (h : MidAt w b o qs K) (hK : K % 64 = 0) (hw : WordsAt w' b o (Sha.comp (Sha.hs qs K) ((qs.take (K + 64)).drop K))) (hc : Chg (fun k i => k = b ∧ o ≤ i ∧ i < o + 8) w w') : MidAt w' b o qs (K + 64) := by
  obtain ⟨R, t, hr, hs⟩ := h.row
  obtain ⟨R', hr', hs', _⟩ := hc.cells b ⟨o + 8, fun hm => by omega⟩ _ _ _ hr
  refine ⟨⟨R', t, hr', by omega⟩, by rw [Sha.hs_block qs K hK]; exact hw, fun i hi => ?_, hc.cell h.len (fun hm => by omega)⟩
  obtain ⟨x, hx, hcx⟩ := h.buf i hi
  exact ⟨x, hx, hc.cell hcx (fun hm => by omega)⟩
theorem MidAt.copied {w w' : World} {b o off : Nat} {qs cs : List Nat} {K : Nat} (h : MidAt w b o qs K) (hb : ∀ x ∈ cs, x < 256) (hfit : off + cs.length ≤ 64)
    (hc : Chg (fun k i => k = b ∧ o + 8 + off ≤ i ∧ i < o + 8 + off + (bvals cs).length) w w') (hcell : ∀ j u, (bvals cs)[j]? = some u → w'.cell? ⟨b, o + 8 + off + j, none⟩ = some u) :
    MidAt w' b o qs K ∧ (∀ j, j < cs.length → w'.cell? ⟨b, o + 8 + (off + j), none⟩ = some (.int .u8 ((cs.getD j 0 : Nat) : Int))) ∧ (∀ i u, i < off → w.cell? ⟨b, o + 8 + i, none⟩ = some u → w'.cell? ⟨b, o + 8 + i, none⟩ = some u) := by
  have hl : (bvals cs).length = cs.length := bvals_length cs
  rw [hl] at hc
  obtain ⟨R, t, hr, hs⟩ := h.row
  obtain ⟨R', hr', hs', _⟩ := hc.cells b ⟨o, fun hm => by omega⟩ _ _ _ hr
  have hnew : ∀ j, j < cs.length → w'.cell? ⟨b, o + 8 + (off + j), none⟩ = some (.int .u8 ((cs.getD j 0 : Nat) : Int)) := fun j hj => by
    rw [← Nat.add_assoc]
    refine hcell j _ ?_
    rw [bvals, List.getElem?_map, List.getElem?_eq_getElem hj]
    simp [List.getD, List.getElem?_eq_getElem hj]
  refine ⟨⟨⟨R', t, hr', by omega⟩, fun i hi => hc.cell (h.words i hi) (fun hm => by omega), fun i hi => ?_, hc.cell h.len (fun hm => by omega)⟩, hnew, fun i u hi hu => hc.cell hu (fun hm => by omega)⟩
  by_cases hi2 : off ≤ i ∧ i < off + cs.length
  · refine ⟨_, ?_, by have := hnew (i - off) (by omega); rwa [show off + (i - off) = i by omega] at this⟩
    rw [List.getD_eq_getElem?_getD, List.getElem?_eq_getElem (by omega)]
    exact hb _ (List.getElem_mem _)
  · obtain ⟨x, hx, hcx⟩ := h.buf i hi
    exact ⟨x, hx, hc.cell hcx (fun hm => by omega)⟩
theorem MidAt.done {w : World} {b o : Nat} {qs : List Nat} {K : Nat} (h : MidAt w b o qs K) (hK : K % 64 = 0) (hle : K ≤ qs.length) (hlt : qs.length < K + 64) (hb : ∀ x ∈ qs, x < 256)
    (hnew : ∀ i, i < qs.length - K → w.cell? ⟨b, o + 8 + i, none⟩ = some (.int .u8 ((qs.getD (K + i) 0 : Nat) : Int))) : StateAt w b o qs := by
  have e1 : qs.length % 64 = qs.length - K := by omega
  have e2 : Sha.hs qs qs.length = Sha.hs qs K := by
    have := Sha.hs_stay qs K (qs.length - K) (by omega)
    rwa [show K + (qs.length - K) = qs.length by omega] at this
  refine ⟨h.row, by rw [e2]; exact h.words, h.buf, fun i hi => ?_, h.len, hb⟩
  rw [e1] at hi ⊢
  rw [hnew i hi, show qs.length - (qs.length - K) + i = K + i by omega]
theorem bytesAt_chg0 {w w' : World} {a : Option Addr} {bs : List Nat} {M : Nat → Nat → Prop} (h : BytesAt w a bs) (hc : Chg M w w') (hM : ∀ ad, a = some ad → 0 < bs.length → ∀ i, ¬ M ad.block i) : BytesAt w' a bs := by
  by_cases h0 : bs = []
  · subst h0; exact ⟨.inl rfl, h.2⟩
  · have hl := List.length_pos_iff.2 h0
    obtain ⟨b, o, e, hcell⟩ := h.some hl
    exact ⟨.inr ⟨b, o, e, fun i hi => hc.cell (hcell i hi) (hM _ e hl _)⟩, h.2⟩
theorem getD_app_l (ps xs : List Nat) (i : Nat) (h : i < ps.length) : (ps ++ xs).getD i 0 = ps.getD i 0 := by rw [List.getD_eq_getElem?_getD, List.getElem?_append_left h, ← List.getD_eq_getElem?_getD]
theorem getD_app_r (ps xs : List Nat) (i : Nat) : (ps ++ xs).getD (ps.length + i) 0 = xs.getD i 0 := by rw [List.getD_eq_getElem?_getD, List.getElem?_append_right (by omega), Nat.add_sub_cancel_left, ← List.getD_eq_getElem?_getD]
theorem getD_take (xs : List Nat) (n i : Nat) (h : i < n) : (xs.take n).getD i 0 = xs.getD i 0 := by rw [List.getD_eq_getElem?_getD, List.getElem?_take_of_lt h, ← List.getD_eq_getElem?_getD]
theorem getD_dropN (xs : List Nat) (n i : Nat) : (xs.drop n).getD i 0 = xs.getD (n + i) 0 := by rw [List.getD_eq_getElem?_getD, List.getElem?_drop, ← List.getD_eq_getElem?_getD]

theorem blk_eq (ps xs : List Nat) (c : Nat) : ((ps ++ xs).take (ps.length + c + 64)).drop (ps.length + c) = ((xs.drop c).take 64).drop 0 := by
  rw [List.drop_take, List.drop_zero, List.drop_append, List.drop_of_length_le (by omega), List.nil_append, show ps.length + c - ps.length = c by omega, show ps.length + c + 64 - (ps.length + c) = 64 by omega]
def sliceLen : Value → Nat
  | .slice _ n _ => n
  | _ => 0
def WrtRel (w : World) (b o : Nat) (ps xs : List Nat) (x : Value) (wr : World) : Prop :=
  ∃ (c : Nat) (ac : Option Addr) (capc : Nat), x = .slice ac (xs.length - c) capc ∧ c ≤ xs.length ∧ (ps.length + c) % 64 = 0 ∧ Hid (MidAt wr b o (ps ++ xs) (ps.length + c)) ∧ xs.length - c ≤ capc ∧ Hid (ac = none → capc = 0) ∧
    Hid (∀ ad, ac = some ad → 0 < xs.length - c → ad.block ≠ b) ∧ Hid (BytesAt wr ac (xs.drop c)) ∧ Hid (Chg (stateCells b o) w wr)
theorem subA_block {a : Option Addr} {l cap k : Nat} {b : Nat} (h : ∀ ad, a = some ad → ad.block ≠ b) : ∀ ad, subA a l cap = some ad → ad.block ≠ b := by
  intro ad e
  unfold subA at e
  split at e
  · exact h ad e
  · cases a with
    | none => cases e
    | some x =>
      rw [Option.map_some] at e
      have e2 : x.add (l * 1) = ad := Option.some.inj e
      have h2 := h x rfl
      rw [← e2]
      obtain ⟨xb, xo, xs⟩ := x
      unfold Addr.add
      split <;> exact h2

set_option maxRecDepth 100000 in
set_option maxHeartbeats 1000000 in
theorem write_any (b o : Nat) (ps : List Nat) (a : Option Addr) (cap : Nat) (xs : List Nat) (hcap : xs.length ≤ cap) (hnil : a = none → cap = 0) (hl : ps.length + xs.length ≤ 1000000000000) (w : World) (h : StateAt w b o ps) (hB : BytesAt w a xs) (hab : ∀ ad, a = some ad → 0 < xs.length → ad.block ≠ b) (hK : KonAt w) (hb2 : b ≠ 1) :
    Calls Tryz.prog 37 #[.pointer (some ⟨b, o, none⟩), .slice a xs.length cap] w fun e w' => e = .returned (.tuple #[]) ∧ StateAt w' b o (ps ++ xs) ∧ Chg (stateCells b o) w w' := by
  have HH := Lib.hid h
  have HB := Lib.hid hB
  have HAB := Lib.hid hab
  have HK := Lib.hid hK
  have HNIL := Lib.hid hnil
  have hlen := h.len
  have hfr := h.free (o + 72)
  clear h hB hab hK hnil
  obtain ⟨u, hu⟩ : ∃ u, ps.length % 64 = u := ⟨_, rfl⟩
  have hu64 : u < 64 := by omega
  have hui : ((ps.length : Nat) : Int).tmod 64 = (u : Int) := by rw [Int.tmod_eq_emod_of_nonneg (by omega)]; omega
  have hui2 : ((ps.length : Nat) : Int) % 64 = (u : Int) := by omega
  have HU := Lib.hid hu
  clear hu
  go_enter Tryz.func37, Tryz.ntmps37
  by_cases h0 : u = 0
  · subst h0
    have hsb : ∀ x ∈ ps ++ xs, x < 256 := fun x hx => by
      rcases List.mem_append.1 hx with h | h
      · exact HH.out.bytes x h
      · exact HB.out.2.1 x h
    have HSB := Lib.hid hsb
    clear hsb
    go_upto_region 2 with fail
    clear hui hui2
    refine wp_over (fun W => Hid (WrtRel w b o ps xs (.slice a xs.length cap) W)) ?_ ?_
    · have hc : Chg (fun k i => k = b ∧ i = o + 72) w (w.setCell ⟨b, o + 72, none⟩ (.int .i64 ((ps.length : Int) + (xs.length : Int)))) := Chg.setCell1 _ _ _ _ ⟨rfl, rfl⟩
      have h := HH.out
      obtain ⟨R, t, hr, hs⟩ := h.row
      obtain ⟨R', hr', hs', _⟩ := hc.cells b ⟨o, fun hm => by omega⟩ _ _ _ hr
      have HC : Chg (stateCells b o) w (w.setCell ⟨b, o + 72, none⟩ (.int .i64 ((ps.length : Int) + (xs.length : Int)))) := Chg.setCell1 _ _ _ _ ⟨rfl, by omega, by omega⟩
      refine ⟨0, a, cap, by rw [Nat.sub_zero], Nat.zero_le _, HU.out, ⟨⟨R', t, hr', by omega⟩, fun i hi => ?_, fun i hi => ?_, ?_⟩, hcap, HNIL.out, HAB.out, ?_, HC⟩
      · rw [show ps.length + 0 = ps.length from rfl, Sha.hs_append ps xs _ (Nat.le_refl _)]
        exact hc.cell (h.words i hi) (fun hm => by omega)
      · obtain ⟨x, hx, hcx⟩ := h.buf i hi
        exact ⟨x, hx, hc.cell hcx (fun hm => by omega)⟩
      · rw [List.length_append, World.cell?_setCell_same _ _ _ h.len]; simp
      · rw [List.drop_zero]
        exact bytesAt_chg0 HB.out HC (fun ad e h0 i hm => HAB.out ad e h0 hm.1)
    rintro W HR0
    go_wp2_with fail
    go_loopw [1] (fun x wr => WrtRel w b o ps xs x wr) (fun x _ => sliceLen x)
    case atStart => exact HR0.out
    case round =>
      obtain ⟨c, ac, capc, rfl, hc, hcm, HM, hcap2, HNC, HSEP, HBY, HCC⟩ := hrel
      have HKR : Hid (KonAt wr) := fun t ht => HCC.out.cell (HK.out t ht) (fun hm => hb2 hm.1.symm)
      by_cases hge : 64 ≤ xs.length - c
      · have hsl : ∀ W, (Instr.slice 52 (.slice ac (xs.length - c) capc) none (some (.int .i64 64)) none).run Tryz.prog W = .ok (.slice (subA ac 0 capc) 64 capc) W := slice_h ac (xs.length - c) capc 64 (by omega)
        have hsl2 : ∀ W, (Instr.slice 52 (.slice ac (xs.length - c) capc) (some (.int .i64 64)) none none).run Tryz.prog W = .ok (.slice (subA ac 64 capc) (xs.length - c - 64) (capc - 64)) W := slice_l ac (xs.length - c) capc 64 (by omega)
        have hdl : (xs.drop c).length = xs.length - c := List.length_drop
        have HBS := Lib.hid (bytesAt_sub HBY.out (by rw [hdl]; exact hcap2) 0 64)
        have HBL : Hid ((((xs.drop c).take 64).drop 0).length = 64) := by show _ = _; rw [List.drop_zero, List.length_take, hdl]; omega
        have HDL := Lib.hid hdl
        clear hdl
        generalize hL : xs.length - c = L at *
        have HL := Lib.hid hL
        clear hL
        have hgi : (64 : Int) ≤ (L : Int) := by omega
        go_wp2_with fail
        refine (process_any b o (Sha.hs (ps ++ xs) (ps.length + c)) (subA ac 0 capc) capc _ HBL.out (by omega) wr HM.out.words (fun i _ => HM.out.free _) HBS.out HKR.out).mono ?_
        rintro e w5 ⟨rfl, hw5, hc5⟩
        rw [← blk_eq ps xs c] at hw5
        have HM5 := Lib.hid (HM.out.block hcm hw5 hc5)
        have HC5 : Hid (Chg (stateCells b o) w w5) := HCC.out.trans (hc5.mono fun k i _ hm => ⟨hm.1, hm.2.1, by have := hm.2.2; omega⟩)
        have hsep : ∀ ad, ac = some ad → ad.block ≠ b := fun ad e => HSEP.out ad e (by omega)
        have HSEP5 := Lib.hid (subA_block (l := 64) (cap := capc) (k := 0) hsep)
        have HB5 : Hid (BytesAt w5 (subA ac 64 capc) (xs.drop (c + 64))) := by
          have h1 := bytesAt_chg0 HBY.out hc5 (fun ad e _ i hm => hsep ad e hm.1)
          have h2 := bytesAt_sub h1 (by rw [HDL.out]; exact hcap2) 64 (xs.drop c).length
          rw [List.take_length, List.drop_drop] at h2
          exact h2
        clear hw5 hc5 hsep
        go_wp2_with fail
        go_roundw
        case rel => exact ⟨c + 64, subA ac 64 capc, capc - 64, by rw [show xs.length - (c + 64) = L - 64 by have := HL.out; omega], by have := HL.out; omega, by omega, by rw [← Nat.add_assoc]; exact HM5.out, by have := HL.out; omega, fun h => subA_none HNC.out h, fun ad e _ => HSEP5.out ad e, HB5.out, HC5.out⟩
        case measure => simp [sliceLen]; omega
      · have hsq := sliceB_all b (o + 8)
        have hdl : (xs.drop c).length = xs.length - c := List.length_drop
        have HDL := Lib.hid hdl
        have hbl : (bvals (xs.drop c)).length = xs.length - c := by rw [bvals_length, hdl]
        have hmin : Nat.min (xs.length - c) 64 = xs.length - c := Nat.min_eq_left (by omega)
        have HCS : Hid ((bvals (xs.drop c)).length = Nat.min (xs.length - c) 64) := by show _ = _; rw [hbl, hmin]
        have HROW : Hid (∃ cur t, wr.heap[b]? = some (.cells cur t (0, 0)) ∧ o + 8 + Nat.min (xs.length - c) 64 ≤ cur.size) := by
          obtain ⟨R, t, hr, hs⟩ := HM.out.row
          exact ⟨R, t, hr, by rw [hmin]; omega⟩
        have HPOS : Hid (0 < (bvals (xs.drop c)).length → (some (⟨b, o + 8, none⟩ : Addr)) = some ⟨b, o + 8, none⟩ ∧ ∃ ad, ac = some ad ∧ ∀ j v, (bvals (xs.drop c))[j]? = some v → wr.cell? (ad.add j) = some v) := fun hp => by
          rw [bvals_length] at hp
          obtain ⟨b', o', e', hcell⟩ := HBY.out.some hp
          refine ⟨rfl, _, e', fun j v hj => ?_⟩
          have hj2 : j < (xs.drop c).length := by have := (List.getElem?_eq_some_iff.1 hj).1; rwa [bvals_length] at this
          rw [add_none, hcell j hj2, ← hj, bvals, List.getElem?_map, List.getElem?_eq_getElem hj2]
          simp [List.getD, List.getElem?_eq_getElem hj2]
        have HHB := Lib.hid hbl
        clear hdl hbl hmin
        generalize hL : xs.length - c = L at *
        have HL := Lib.hid hL
        clear hL
        have hgi : ¬ (64 : Int) ≤ (L : Int) := by omega
        go_wp2_with (first
          | (with_reducible refine wpList_copy_cells rfl (.tmp 54) (.tmp 55) 52 52 rfl 5 Tryz.underlying52 (by kernel_rfl) _ _ _ _ _ _ rfl rfl b (o + 8) HROW.out (bvals (xs.drop c)) HCS.out HPOS.out (bvals_one _) ?_
             intro w6 hc6 hcell6 hrow6
             have HCP := Lib.hid (HM.out.copied (off := 0) (fun x hx => HB.out.2.1 x (List.mem_of_mem_drop hx)) (by rw [HDL.out]; omega) hc6 hcell6)
             have HC6 : Hid (Chg (stateCells b o) w w6) := HCC.out.trans (hc6.mono fun k i _ hm => ⟨hm.1, by omega, by have h9 := hm.2.2; rw [HHB.out] at h9; omega⟩)
             clear hc6 hcell6 hrow6))
        go_end0
        refine ⟨rfl, HCP.out.1.done hcm (by rw [List.length_append]; omega) (by rw [List.length_append]; have := HL.out; omega) HSB.out (fun i hi => ?_), HC6.out⟩
        rw [List.length_append] at hi
        have hL := HL.out
        have h := HCP.out.2.1 i (by rw [HDL.out]; omega)
        rw [Nat.zero_add] at h
        rw [h, getD_dropN, show ps.length + c + i = ps.length + (c + i) by omega, getD_app_r]
  · have hu0 : 0 < u := by omega
    have hsa := sliceB_l b (o + 8) u hu64
    go_upto_region 3 with fail
    clear hui hui2
    refine wp_over (fun W => Hid (MidAt W b o (ps ++ xs) (ps.length - u)) ∧ Hid (∀ i, i < u → W.cell? ⟨b, o + 8 + i, none⟩ = some (.int .u8 ((ps.getD (ps.length - u + i) 0 : Nat) : Int))) ∧ Hid (Chg (stateCells b o) w W)) ⟨?_, ?_, ?_⟩ ?_
    · have hc : Chg (fun k i => k = b ∧ i = o + 72) w (w.setCell ⟨b, o + 72, none⟩ (.int .i64 ((ps.length : Int) + (xs.length : Int)))) := Chg.setCell1 _ _ _ _ ⟨rfl, rfl⟩
      have h := HH.out
      obtain ⟨R, t, hr, hs⟩ := h.row
      obtain ⟨R', hr', hs', _⟩ := hc.cells b ⟨o, fun hm => by omega⟩ _ _ _ hr
      refine ⟨⟨R', t, hr', by omega⟩, fun i hi => ?_, fun i hi => ?_, ?_⟩
      · have e : Sha.hs (ps ++ xs) (ps.length - u) = Sha.hs ps ps.length := by
          rw [Sha.hs_append ps xs _ (by omega)]
          have h2 := Sha.hs_stay ps (ps.length - u) u (by have := HU.out; omega)
          rw [show ps.length - u + u = ps.length by have := HU.out; omega] at h2
          exact h2.symm
        rw [e]
        exact hc.cell (h.words i hi) (fun hm => by omega)
      · obtain ⟨x, hx, hcx⟩ := h.buf i hi
        exact ⟨x, hx, hc.cell hcx (fun hm => by omega)⟩
      · rw [List.length_append, World.cell?_setCell_same _ _ _ h.len]; simp
    · intro i hi
      have h := HH.out.held i (by rw [HU.out]; exact hi)
      rw [HU.out] at h
      exact set_other h (by omega)
    · exact Chg.setCell1 _ _ _ _ ⟨rfl, by omega, by omega⟩
    rintro W ⟨HM, HHELD, HCW⟩
    obtain ⟨n, hn⟩ : ∃ n, Nat.min xs.length (64 - u) = n := ⟨_, rfl⟩
    have hn1 : n ≤ xs.length := by rw [← hn]; exact Nat.min_le_left _ _
    have hn2 : n ≤ 64 - u := by rw [← hn]; exact Nat.min_le_right _ _
    have hn3 : n = xs.length ∨ n = 64 - u := by rw [← hn]; exact (Nat.le_total xs.length (64 - u)).imp Nat.min_eq_left Nat.min_eq_right
    have HN := Lib.hid hn
    clear hn
    have HBW : Hid (BytesAt W a xs) := bytesAt_chg0 HB.out HCW.out (fun ad e h0 i hm => HAB.out ad e h0 hm.1)
    have htl : (xs.take n).length = n := by rw [List.length_take]; omega
    have HTL := Lib.hid htl
    have HCS : Hid ((bvals (xs.take n)).length = Nat.min xs.length (64 - u)) := by show _ = _; rw [bvals_length, HTL.out, HN.out]
    have HROW : Hid (∃ cur t, W.heap[b]? = some (.cells cur t (0, 0)) ∧ o + 8 + u + Nat.min xs.length (64 - u) ≤ cur.size) := by
      obtain ⟨R, t, hr, hs⟩ := HM.out.row
      exact ⟨R, t, hr, by rw [HN.out]; omega⟩
    have HPOS : Hid (0 < (bvals (xs.take n)).length → (some (⟨b, o + 8 + u, none⟩ : Addr)) = some ⟨b, o + 8 + u, none⟩ ∧ ∃ ad, a = some ad ∧ ∀ j v, (bvals (xs.take n))[j]? = some v → W.cell? (ad.add j) = some v) := fun hp => by
      rw [bvals_length, HTL.out] at hp
      obtain ⟨b', o', e', hc⟩ := HBW.out.some (by omega)
      refine ⟨rfl, _, e', fun j v hj => ?_⟩
      have hj2 : j < n := by have := (List.getElem?_eq_some_iff.1 hj).1; rwa [bvals_length, HTL.out] at this
      rw [add_none, hc j (by omega), ← hj, bvals, List.getElem?_map, List.getElem?_take_of_lt hj2, List.getElem?_eq_getElem (by omega)]
      simp [List.getD, List.getElem?_eq_getElem (show j < xs.length by omega)]
    have hsl := slice_l a xs.length cap n hn1
    have hgo : goInt ((bvals (xs.take n)).length : Int) = .int .i64 (n : Int) := by rw [bvals_length, HTL.out]; rfl
    clear htl
    go_upto_region 5 with (first
      | (with_reducible refine wpList_copy_cells rfl (.tmp 26) (.tmp 27) 52 52 rfl 5 Tryz.underlying52 (by kernel_rfl) _ _ _ _ _ _ rfl rfl b (o + 8 + u) HROW.out (bvals (xs.take n)) HCS.out HPOS.out (bvals_one _) ?_
         intro w2 hc2 hcell2 hrow2
         rw [hgo]
         have hcp := HM.out.copied (fun x hx => HB.out.2.1 x (List.mem_of_mem_take hx)) (by rw [HTL.out]; omega) hc2 hcell2
         have HCP := Lib.hid hcp
         have HC2 : Hid (Chg (stateCells b o) w w2) := HCW.out.trans (hc2.mono fun k i _ hm => ⟨hm.1, by omega, by have h9 := hm.2.2; rw [bvals_length, HTL.out] at h9; omega⟩)
         clear hc2 hcell2 hrow2 hcp))
    have hsb : ∀ x ∈ ps ++ xs, x < 256 := fun x hx => by
      rcases List.mem_append.1 hx with h | h
      · exact HH.out.bytes x h
      · exact HB.out.2.1 x h
    have HBUF : Hid (∀ i, i < u + n → w2.cell? ⟨b, o + 8 + i, none⟩ = some (.int .u8 (((ps ++ xs).getD (ps.length - u + i) 0 : Nat) : Int))) := fun i hi => by
      obtain ⟨_, h2, h3⟩ := HCP.out
      have hup : u ≤ ps.length := by have := HU.out; omega
      by_cases hiu : i < u
      · rw [h3 i _ hiu (HHELD.out i hiu), getD_app_l _ _ _ (by omega)]
      · have h4 := h2 (i - u) (by rw [HTL.out]; omega)
        rw [show u + (i - u) = i by omega] at h4
        rw [h4, getD_take _ _ _ (by omega), show ps.length - u + i = ps.length + (i - u) by omega, getD_app_r]
    have HSB := Lib.hid hsb
    clear hsb hsl hsa hgo
    by_cases h64 : u + n < 64
    · have h64i : (u : Int) + (n : Int) < 64 := by omega
      go_wp2_with fail
      (try simp only [Exit.inBlock, Exit.then])
      refine bodyPost_ret (results_none rfl _ _ _) rfl ?_
      refine ⟨rfl, HCP.out.1.done (by have := HU.out; omega) (by rw [List.length_append]; omega) (by rw [List.length_append]; have := HU.out; omega) HSB.out (fun i hi => HBUF.out i (by rw [List.length_append] at hi; have := HU.out; omega)), HC2.out⟩
    · have h64i : ¬ (u : Int) + (n : Int) < 64 := by omega
      have hsq := sliceB_all b (o + 8)
      have hq : ((ps ++ xs).take (ps.length - u + 64)).length = ps.length - u + 64 := by rw [List.length_take, List.length_append]; have := HU.out; omega
      have HBL : Hid ((((ps ++ xs).take (ps.length - u + 64)).drop (ps.length - u)).length = 64) := by show _ = _; rw [List.length_drop, hq]; have := HU.out; omega
      have HK2 : Hid (KonAt w2) := fun t ht => HC2.out.cell (HK.out t ht) (fun hm => hb2 hm.1.symm)
      have HBB : Hid (BytesAt w2 (some ⟨b, o + 8, none⟩) (((ps ++ xs).take (ps.length - u + 64)).drop (ps.length - u))) := by
        refine ⟨.inr ⟨b, o + 8, rfl, fun i hi => ?_⟩, fun x hx => HSB.out x (List.mem_of_mem_take (List.mem_of_mem_drop hx)), by rw [HBL.out]; unfold maxLen; omega⟩
        rw [HBL.out] at hi
        rw [HBUF.out i (by omega), getD_dropN, getD_take _ _ _ (by omega)]
      clear hq
      go_wp2_with fail
      refine (process_any b o (Sha.hs (ps ++ xs) (ps.length - u)) (some ⟨b, o + 8, none⟩) 64 _ HBL.out (Nat.le_refl _) w2 HCP.out.1.words (fun i _ => HCP.out.1.free _) HBB.out HK2.out).mono ?_
      rintro e w3 ⟨rfl, hw3, hc3⟩
      have HM3 : Hid (MidAt w3 b o (ps ++ xs) (ps.length + n)) := by
        have h := HCP.out.1.block (by have := HU.out; omega) hw3 hc3
        rwa [show ps.length - u + 64 = ps.length + n by have := HU.out; omega] at h
      have HC3 : Hid (Chg (stateCells b o) w w3) := HC2.out.trans (hc3.mono fun k i _ hm => ⟨hm.1, hm.2.1, by have := hm.2.2; omega⟩)
      clear hw3 hc3 hsq
      have hnx : n = 64 - u := by omega
      have hR0 : WrtRel w b o ps xs (.slice (subA a n cap) (xs.length - n) (cap - n)) w3 := ⟨n, _, _, rfl, hn1, by have := HU.out; omega, HM3.out, by omega, fun h => subA_none HNIL.out h, fun ad e h0 => subA_block (l := n) (cap := cap) (k := 0) (fun ad e => HAB.out ad e (by omega)) ad e, by
        have h1 := bytesAt_chg0 HB.out HC3.out (fun ad e h0 i hm => HAB.out ad e h0 hm.1)
        have h2 := bytesAt_sub h1 hcap n xs.length
        rw [List.take_length] at h2
        exact h2, HC3.out⟩
      have HR0 := Lib.hid hR0
      clear hR0 hnx
      go_wp2_with fail
      go_loopw [1] (fun x wr => WrtRel w b o ps xs x wr) (fun x _ => sliceLen x)
      case atStart => exact HR0.out
      case round =>
        obtain ⟨c, ac, capc, rfl, hc, hcm, HM, hcap2, HNC, HSEP, HBY, HCC⟩ := hrel
        have HKR : Hid (KonAt wr) := fun t ht => HCC.out.cell (HK.out t ht) (fun hm => hb2 hm.1.symm)
        by_cases hge : 64 ≤ xs.length - c
        · have hsl : ∀ W, (Instr.slice 52 (.slice ac (xs.length - c) capc) none (some (.int .i64 64)) none).run Tryz.prog W = .ok (.slice (subA ac 0 capc) 64 capc) W := slice_h ac (xs.length - c) capc 64 (by omega)
          have hsl2 : ∀ W, (Instr.slice 52 (.slice ac (xs.length - c) capc) (some (.int .i64 64)) none none).run Tryz.prog W = .ok (.slice (subA ac 64 capc) (xs.length - c - 64) (capc - 64)) W := slice_l ac (xs.length - c) capc 64 (by omega)
          have hdl : (xs.drop c).length = xs.length - c := List.length_drop
          have HBS := Lib.hid (bytesAt_sub HBY.out (by rw [hdl]; exact hcap2) 0 64)
          have HBL : Hid ((((xs.drop c).take 64).drop 0).length = 64) := by show _ = _; rw [List.drop_zero, List.length_take, hdl]; omega
          have HDL := Lib.hid hdl
          clear hdl
          generalize hL : xs.length - c = L at *
          have HL := Lib.hid hL
          clear hL
          have hgi : (64 : Int) ≤ (L : Int) := by omega
          go_wp2_with fail
          refine (process_any b o (Sha.hs (ps ++ xs) (ps.length + c)) (subA ac 0 capc) capc _ HBL.out (by omega) wr HM.out.words (fun i _ => HM.out.free _) HBS.out HKR.out).mono ?_
          rintro e w5 ⟨rfl, hw5, hc5⟩
          rw [← blk_eq ps xs c] at hw5
          have HM5 := Lib.hid (HM.out.block hcm hw5 hc5)
          have HC5 : Hid (Chg (stateCells b o) w w5) := HCC.out.trans (hc5.mono fun k i _ hm => ⟨hm.1, hm.2.1, by have := hm.2.2; omega⟩)
          have hsep : ∀ ad, ac = some ad → ad.block ≠ b := fun ad e => HSEP.out ad e (by omega)
          have HSEP5 := Lib.hid (subA_block (l := 64) (cap := capc) (k := 0) hsep)
          have HB5 : Hid (BytesAt w5 (subA ac 64 capc) (xs.drop (c + 64))) := by
            have h1 := bytesAt_chg0 HBY.out hc5 (fun ad e _ i hm => hsep ad e hm.1)
            have h2 := bytesAt_sub h1 (by rw [HDL.out]; exact hcap2) 64 (xs.drop c).length
            rw [List.take_length, List.drop_drop] at h2
            exact h2
          clear hw5 hc5 hsep
          go_wp2_with fail
          go_roundw
          case rel => exact ⟨c + 64, subA ac 64 capc, capc - 64, by rw [show xs.length - (c + 64) = L - 64 by have := HL.out; omega], by have := HL.out; omega, by omega, by rw [← Nat.add_assoc]; exact HM5.out, by have := HL.out; omega, fun h => subA_none HNC.out h, fun ad e _ => HSEP5.out ad e, HB5.out, HC5.out⟩
          case measure => simp [sliceLen]; omega
        · have hsq := sliceB_all b (o + 8)
          have hdl : (xs.drop c).length = xs.length - c := List.length_drop
          have HDL := Lib.hid hdl
          have hbl : (bvals (xs.drop c)).length = xs.length - c := by rw [bvals_length, hdl]
          have hmin : Nat.min (xs.length - c) 64 = xs.length - c := Nat.min_eq_left (by omega)
          have HCS : Hid ((bvals (xs.drop c)).length = Nat.min (xs.length - c) 64) := by show _ = _; rw [hbl, hmin]
          have HROW : Hid (∃ cur t, wr.heap[b]? = some (.cells cur t (0, 0)) ∧ o + 8 + Nat.min (xs.length - c) 64 ≤ cur.size) := by
            obtain ⟨R, t, hr, hs⟩ := HM.out.row
            exact ⟨R, t, hr, by rw [hmin]; omega⟩
          have HPOS : Hid (0 < (bvals (xs.drop c)).length → (some (⟨b, o + 8, none⟩ : Addr)) = some ⟨b, o + 8, none⟩ ∧ ∃ ad, ac = some ad ∧ ∀ j v, (bvals (xs.drop c))[j]? = some v → wr.cell? (ad.add j) = some v) := fun hp => by
            rw [bvals_length] at hp
            obtain ⟨b', o', e', hcell⟩ := HBY.out.some hp
            refine ⟨rfl, _, e', fun j v hj => ?_⟩
            have hj2 : j < (xs.drop c).length := by have := (List.getElem?_eq_some_iff.1 hj).1; rwa [bvals_length] at this
            rw [add_none, hcell j hj2, ← hj, bvals, List.getElem?_map, List.getElem?_eq_getElem hj2]
            simp [List.getD, List.getElem?_eq_getElem hj2]
          have HHB := Lib.hid hbl
          clear hdl hbl hmin
          generalize hL : xs.length - c = L at *
          have HL := Lib.hid hL
          clear hL
          have hgi : ¬ (64 : Int) ≤ (L : Int) := by omega
          go_wp2_with (first
            | (with_reducible refine wpList_copy_cells rfl (.tmp 54) (.tmp 55) 52 52 rfl 5 Tryz.underlying52 (by kernel_rfl) _ _ _ _ _ _ rfl rfl b (o + 8) HROW.out (bvals (xs.drop c)) HCS.out HPOS.out (bvals_one _) ?_
               intro w6 hc6 hcell6 hrow6
               have HCP := Lib.hid (HM.out.copied (off := 0) (fun x hx => HB.out.2.1 x (List.mem_of_mem_drop hx)) (by rw [HDL.out]; omega) hc6 hcell6)
               have HC6 : Hid (Chg (stateCells b o) w w6) := HCC.out.trans (hc6.mono fun k i _ hm => ⟨hm.1, by omega, by have h9 := hm.2.2; rw [HHB.out] at h9; omega⟩)
               clear hc6 hcell6 hrow6))
          go_end0
          refine ⟨rfl, HCP.out.1.done hcm (by rw [List.length_append]; omega) (by rw [List.length_append]; have := HL.out; omega) HSB.out (fun i hi => ?_), HC6.out⟩
          rw [List.length_append] at hi
          have hL := HL.out
          have h := HCP.out.2.1 i (by rw [HDL.out]; omega)
          rw [Nat.zero_add] at h
          rw [h, getD_dropN, show ps.length + c + i = ps.length + (c + i) by omega, getD_app_r]
end Go.Proofs.YtmcbnhkcjhlbaaaGreatDoor
