/- What lies in memory: bytes, numbers, strings; slices of slices; appending to slices of the call's own. The numbers of the types hang on the seat. -/
import Derived.Test.YtmnendoloankgaaDoorRows
import Derived.Test.YtmnendoloankgaaDoorHeld
import Derived.Test.YtmnendoloankgaaDoorSha
import Derived.Great.FillDense
import Derived.Laws.CopyOwn
import Derived.Laws.AppendOwnNone
import Derived.Laws.BytesArg
import Derived.Maps.AppendAt
import Derived.RangeFuncBox
import Derived.OwnWalk
import Derived.WalkSpells
import Derived.WalkLawsBesides
import Derived.Lib.Hide
import Derived.Lib.Bytes
import Derived.Lib.Strings
import Derived.BigQuiet
namespace Go.Proofs.YtmnendoloankgaaDoor
set_option linter.unusedVariables false
set_option linter.unusedSimpArgs false
open Go.RowKit
open Kit (Chg)
theorem ne_addr {b i j : Nat} (h : i ≠ j) : (⟨b, i, none⟩ : Addr) ≠ ⟨b, j, none⟩ := by
  intro e; cases e; exact h rfl
theorem set_same {w : World} {b i : Nat} {v x : Value} (h : w.cell? ⟨b, i, none⟩ = some x) : (w.setCell ⟨b, i, none⟩ v).cell? ⟨b, i, none⟩ = some v := World.cell?_setCell_same _ _ _ h
theorem set_other {w : World} {b i j : Nat} {v x : Value} (h : w.cell? ⟨b, j, none⟩ = some x) (hne : i ≠ j) : (w.setCell ⟨b, i, none⟩ v).cell? ⟨b, j, none⟩ = some x :=
  (World.cell?_setCell_other _ _ _ _ (ne_addr hne)).trans h
/-- A walk goes on over any world of which the facts I hold. -/
theorem wp_over {P : Program} {c : Code} {Q : Exit → Act → World → Prop} {a : Act} {w : World} (I : World → Prop) (h0 : I w) (h : ∀ w', I w' → c.wp P Q a w') : c.wp P Q a w := h w h0
theorem _root_.Go.RowKit.Below.undrew {B : Nat} {w w' : World} (h : Below B w.drew w') : Below B w w' := ((Below.refl B w).drew).trans h
/-- The world w1 after some draws. -/
def Drawn (w1 wr : World) : Prop := ∃ n, wr = w1.drewN n
theorem Drawn.refl (w : World) : Drawn w w := ⟨0, rfl⟩
theorem Drawn.drewN {w1 wr : World} (h : Drawn w1 wr) (n : Nat) : Drawn w1 (wr.drewN n) := by
  obtain ⟨m, rfl⟩ := h
  exact ⟨m + n, World.drewN_drewN _ _ _⟩
theorem ownsRow_keep {w w' : World} {base e size n : Nat} {v : Value} {xs : List Value} {M : Nat → Nat → Prop} (h : w.ownsRow base e size v n xs) (hc : Chg M w w') (hM : ∀ g, base ≤ g → ∀ i, ¬ M g i) : w'.ownsRow base e size v n xs := by
  refine ⟨h.1, ?_⟩
  rcases h.2 with hn | ⟨g, cap, cur, rfl, hb, hg, r⟩
  · exact .inl hn
  · exact .inr ⟨g, cap, cur, rfl, hb, (hc.other g (Array.getElem?_eq_some_iff.1 hg).1 (hM g hb)).trans hg, r⟩
/-- The bytes bs lie at a: the elements of a slice of bytes. -/
def BytesAt (w : World) (a : Option Addr) (bs : List Nat) : Prop :=
  (bs = [] ∨ ∃ b o, a = some ⟨b, o, none⟩ ∧ ∀ i, i < bs.length → w.cell? ⟨b, o + i, none⟩ = some (.int .u8 ((bs.getD i 0 : Nat) : Int))) ∧ (∀ x ∈ bs, x < 256) ∧ bs.length ≤ maxLen
theorem BytesAt.some {w : World} {a : Option Addr} {bs : List Nat} (h : BytesAt w a bs) (hl : 0 < bs.length) : ∃ b o, a = Option.some ⟨b, o, none⟩ ∧ ∀ i, i < bs.length → w.cell? ⟨b, o + i, none⟩ = Option.some (.int .u8 ((bs.getD i 0 : Nat) : Int)) := by
  rcases h.1 with e | e
  · subst e; simp at hl
  · exact e
theorem BytesAt.getD_lt {w : World} {a : Option Addr} {bs : List Nat} (h : BytesAt w a bs) (k : Nat) (hk : k < bs.length) : bs.getD k 0 < 256 := by
  rw [List.getD_eq_getElem?_getD, List.getElem?_eq_getElem hk]; exact h.2.1 _ (List.getElem_mem hk)
/-- Bytes that are there stay, whatever comes behind. -/
theorem BytesAt.later {w w' : World} {a : Option Addr} {bs : List Nat} (h : BytesAt w a bs) (hb : Below w.heap.size w w') : BytesAt w' a bs := by
  refine ⟨?_, h.2.1, h.2.2⟩
  rcases h.1 with e | ⟨b, o, e, hc⟩
  · exact .inl e
  · exact .inr ⟨b, o, e, fun i hi => (hb.cell (p := ⟨b, o + i, none⟩) (World.block_lt_of_cell? w _ (hc i hi))).trans (hc i hi)⟩
theorem ownsRow_keepM {w w' : World} {base e size n : Nat} {v : Value} {xs : List Value} {M : Nat → Nat → Prop} (h : w.ownsRow base e size v n xs) (hc : Chg M w w') (hM : ∀ g, v.ownBlock = some g → ∀ i, ¬ M g i) : w'.ownsRow base e size v n xs := by
  refine ⟨h.1, ?_⟩
  rcases h.2 with hn | ⟨g, cap, cur, rfl, hb, hg, r⟩
  · exact .inl hn
  · exact .inr ⟨g, cap, cur, rfl, hb, (hc.other g (Array.getElem?_eq_some_iff.1 hg).1 (hM g rfl)).trans hg, r⟩
theorem row_type {w : World} {base e size n g : Nat} {v : Value} {xs : List Value} (h : w.ownsRow base e size v n xs) (hg : v.ownBlock = some g) : ∃ cur, w.heap[g]? = some (.cells cur e (0, 0)) := by
  rcases h.2 with ⟨rfl, _⟩ | ⟨g', cap, cur, rfl, hb, hgg, r⟩
  · simp [Value.ownBlock] at hg
  · obtain rfl : g' = g := by simpa [Value.ownBlock] using hg
    exact ⟨cur, hgg⟩
theorem bytesAt_chg {w w' : World} {a : Option Addr} {bs : List Nat} {M : Nat → Nat → Prop} (h : BytesAt w a bs) (hc : Chg M w w') (hM : ∀ ad, a = some ad → ∀ i, ¬ M ad.block i) : BytesAt w' a bs := by
  refine ⟨?_, h.2⟩
  rcases h.1 with e | ⟨b, o, e, hcell⟩
  · exact .inl e
  · exact .inr ⟨b, o, e, fun i hi => hc.cell (hcell i hi) (hM _ e _)⟩
/-- A block of another type is not the row of a slice. -/
theorem not_row_of {W : World} {base e size n k : Nat} {v : Value} {xs : List Value} {c : Array Value} {T : TypeId} {f : Nat × Nat} (hr : W.ownsRow base e size v n xs) (hk : W.heap[k]? = some (.cells c T f)) (hT : T ≠ e) : some k ≠ v.ownBlock := by
  rcases hr.2 with ⟨rfl, _⟩ | ⟨g, cap, cur, rfl, _, hgb, _⟩
  · simp [Value.ownBlock]
  · intro e'
    obtain rfl : k = g := by simpa [Value.ownBlock] using e'
    rw [hgb] at hk
    cases hk
    exact hT rfl
theorem rows_apart {w : World} {base base' e e' size size' n n' : Nat} {v v' : Value} {xs xs' : List Value} (h : w.ownsRow base e size v n xs) (h' : w.ownsRow base' e' size' v' n' xs') (he : e ≠ e') {g : Nat} (hg : v.ownBlock = some g) : some g ≠ v'.ownBlock := by
  obtain ⟨cur, ht⟩ := row_type h hg
  exact not_row_of h' ht he
/-- Numbers as the values of cells. -/
def natV (zs : List Nat) : List Value := zs.map fun (z : Nat) => Value.int .i64 (z : Int)
theorem natV_length (zs : List Nat) : (natV zs).length = zs.length := by simp [natV]
theorem natV_get (zs : List Nat) (i : Nat) (h : i < zs.length) : (natV zs)[i]? = some (.int .i64 ((zs.getD i 0 : Nat) : Int)) := by simp [natV, h]
/-- The numbers zs lie at a: the elements of a slice of numbers. -/
def IntsAt (w : World) (a : Option Addr) (zs : List Nat) : Prop :=
  zs = [] ∨ ∃ b o, a = some ⟨b, o, none⟩ ∧ ∀ i, i < zs.length → w.cell? ⟨b, o + i, none⟩ = some (.int .i64 ((zs.getD i 0 : Nat) : Int))
theorem IntsAt.later {w w' : World} {a : Option Addr} {zs : List Nat} (h : IntsAt w a zs) (hb : Below w.heap.size w w') : IntsAt w' a zs := by
  rcases h with e | ⟨b, o, e, hc⟩
  · exact .inl e
  · exact .inr ⟨b, o, e, fun i hi => (hb.cell (p := ⟨b, o + i, none⟩) (World.block_lt_of_cell? w _ (hc i hi))).trans (hc i hi)⟩
theorem ints_of_own {w : World} {base n : Nat} {v : Value} {zs : List Nat} (h : w.ownsRow base 3 1 v n (natV zs)) : n = zs.length ∧ ∃ a cap, v = .slice a zs.length cap ∧ zs.length ≤ cap ∧ cap ≤ maxLen ∧ IntsAt w a zs ∧ (a = none → cap = 0) := by
  obtain ⟨hl, hv⟩ := h
  rw [natV_length, Nat.mul_one] at hl
  subst hl
  refine ⟨rfl, ?_⟩
  rcases hv with ⟨rfl, h0⟩ | ⟨g, cap, cur, rfl, _, hg, hnc, hcm, hcs, htake⟩
  · exact ⟨none, 0, by rw [h0], by omega, Nat.zero_le _, .inl (List.eq_nil_of_length_eq_zero h0), fun _ => rfl⟩
  · refine ⟨some ⟨g, 0, none⟩, cap, rfl, hnc, hcm, .inr ⟨g, 0, rfl, fun i hi => ?_⟩, fun e => by cases e⟩
    rw [Nat.zero_add, cell_of_row _ _ _ _ _ _ hg]
    have h1 := natV_get zs i hi
    rw [← htake, Nat.mul_one, List.getElem?_take_of_lt hi] at h1
    simpa using h1
theorem ownsRow_base {w : World} {base base' e size n : Nat} {v : Value} {xs : List Value} (h : w.ownsRow base e size v n xs) (hb : base' ≤ base) : w.ownsRow base' e size v n xs := by
  refine ⟨h.1, ?_⟩
  rcases h.2 with hn | ⟨g, cap, cur, rfl, hg, r⟩
  · exact .inl hn
  · exact .inr ⟨g, cap, cur, rfl, Nat.le_trans hb hg, r⟩
theorem natV_app (zs : List Nat) (x : Nat) : natV (zs ++ [x]) = natV zs ++ [.int .i64 (x : Int)] := by simp [natV]
/-- What is appended: nothing (nil), or the cells from an address on. -/
def SrcAt (w : World) (a : Option Addr) (m c size : Nat) (news : List Value) : Prop :=
  (a = none ∧ m = 0 ∧ c = 0 ∧ news = []) ∨ (news.length = m * size ∧ ∃ ad, a = some ad ∧ ∀ j u, news[j]? = some u → w.cell? (ad.add j) = some u)
theorem wpList_append_src {P : Program} {w : World} {ops : Array Oper} {rest : List Oper} {o : Oper} {a : Act} {Q : Exit → Act → World → Prop} (hgd : o.guard = none) (s x : Operand) (t : TypeId)
    (ho : o.op = .call { callee := .builtin .append, args := #[s, x], argTypes := #[t, t] })
    (base : Nat) (e : TypeId) (i : TypeInfo) (z : Value) (size bytes : Nat) (ht : P.underlying t = some (.slice e)) (hi : P.info? e = some i) (hz : i.zero = some z)
    (hsize : i.size = size) (hby : i.bytes = bytes) (hzs : z.cells.size = size) (hsz : 0 < size)
    (v : Value) (n : Nat) (xs : List Value) (hs : a.eval s = v) (hown : w.ownsRow base e size v n xs)
    (ao : Option Addr) (m c : Nat) (news : List Value) (hx : a.eval x = .slice ao m c) (hsrc : SrcAt w ao m c size news) (h1 : ∀ u ∈ news, u.oneCell' = true)
    (h63 : n + m ≤ maxLen) (hbytes : (n + m) * bytes ≤ 140737488355328) (hbase : base ≤ w.heap.size)
    (h : ∀ v' w', w'.ownsRow base e size v' (n + m) (xs ++ news) → w.grownBy w' v.ownBlock → wpList P ops Q rest (a.put o.dst v') w') : wpList P ops Q (o :: rest) a w := by
  rcases hsrc with ⟨rfl, rfl, rfl, rfl⟩ | ⟨hl, ad, rfl, hnews⟩
  · refine wpList_append_own_none hgd s x t ho base e i size ht hi v n xs hs hown hx ?_
    refine h v w ?_ ⟨rfl, rfl, rfl, Nat.le_refl _, fun _ _ _ => rfl⟩
    rw [List.append_nil, Nat.add_zero]; exact hown
  · exact wpList_append_own w hgd s x t ho base e i z size bytes ht hi hz hsize hby hzs hsz v n xs hs hown ad m c news hx hl hnews h1 h63 hbytes hbase (fun v' w' a b _ => h v' w' a b)
/-- Bytes as the values of cells. -/
def bvals (bs : List Nat) : List Value := bs.map fun (x : Nat) => Value.int .u8 (x : Int)
theorem bvals_length (bs : List Nat) : (bvals bs).length = bs.length := by simp [bvals]
theorem bvals_one (bs : List Nat) : ∀ v ∈ bvals bs, v.oneCell' = true := by
  intro v hv
  simp only [bvals, List.mem_map] at hv
  obtain ⟨x, _, rfl⟩ := hv
  rfl
theorem bvals_append (bs cs : List Nat) : bvals (bs ++ cs) = bvals bs ++ bvals cs := by simp [bvals]
theorem add_none (b o j : Nat) : (⟨b, o, none⟩ : Addr).add j = ⟨b, o + j, none⟩ := by unfold Addr.add; split <;> simp_all
theorem BytesAt.src {w : World} {a : Option Addr} {bs : List Nat} (h : BytesAt w a bs) (c : Nat) (hc : a = none → c = 0) : SrcAt w a bs.length c 1 (bvals bs) := by
  rcases h.1 with e | ⟨b, o, e, hcell⟩
  · subst e
    cases a with
    | none => exact .inl ⟨rfl, rfl, hc rfl, rfl⟩
    | some ad => exact .inr ⟨rfl, ad, rfl, fun j u hu => by simp [bvals] at hu⟩
  · subst e
    refine .inr ⟨by rw [bvals_length, Nat.mul_one], _, rfl, fun j u hu => ?_⟩
    have hj : j < bs.length := by
      have := (List.getElem?_eq_some_iff.1 hu).1
      rwa [bvals_length] at this
    rw [add_none, hcell j hj, ← hu]
    simp [bvals, hj]
/-- A slice of the call's own that holds bytes reads as bytes. -/
theorem bytes_of_own {w : World} {base n : Nat} {v : Value} {bs : List Nat} (h : w.ownsRow base 5 1 v n (bvals bs)) (hb : ∀ x ∈ bs, x < 256) (hm : bs.length ≤ maxLen) :
    n = bs.length ∧ ∃ a cap, v = .slice a bs.length cap ∧ bs.length ≤ cap ∧ cap ≤ maxLen ∧ BytesAt w a bs ∧ (a = none → cap = 0) := by
  obtain ⟨hl, hv⟩ := h
  rw [bvals_length, Nat.mul_one] at hl
  subst hl
  refine ⟨rfl, ?_⟩
  rcases hv with ⟨rfl, h0⟩ | ⟨g, cap, cur, rfl, _, hg, hnc, hcm, hcs, htake⟩
  · have : bs = [] := List.eq_nil_of_length_eq_zero h0
    subst this
    exact ⟨none, 0, rfl, Nat.le_refl _, Nat.zero_le _, ⟨.inl rfl, hb, hm⟩, fun _ => rfl⟩
  · refine ⟨some ⟨g, 0, none⟩, cap, rfl, hnc, hcm, ⟨.inr ⟨g, 0, rfl, fun i hi => ?_⟩, hb, hm⟩, fun e => by cases e⟩
    rw [Nat.zero_add, cell_of_row _ _ _ _ _ _ hg]
    have h1 : (bvals bs)[i]? = some (.int .u8 ((bs.getD i 0 : Nat) : Int)) := by simp [bvals, hi]
    rw [← htake, Nat.mul_one, List.getElem?_take_of_lt hi] at h1
    simpa using h1
/-- append of bytes to a slice of the call's own, as a law on the operation alone. -/
theorem wp_append_src {P : Program} {w : World} {o : Oper} {a : Act} {K : Act → World → Prop} {Q : Exit → Act → World → Prop} (s x : Operand) (t : TypeId)
    (ho : o.op = .call { callee := .builtin .append, args := #[s, x], argTypes := #[t, t] })
    (base : Nat) (e : TypeId) (i : TypeInfo) (z : Value) (size bytes : Nat) (ht : P.underlying t = some (.slice e)) (hi : P.info? e = some i) (hz : i.zero = some z)
    (hsize : i.size = size) (hby : i.bytes = bytes) (hzs : z.cells.size = size) (hsz : 0 < size)
    (v : Value) (n : Nat) (xs : List Value) (hs : a.eval s = v) (hown : w.ownsRow base e size v n xs)
    (ao : Option Addr) (m c : Nat) (news : List Value) (hx : a.eval x = .slice ao m c) (hsrc : SrcAt w ao m c size news) (h1 : ∀ u ∈ news, u.oneCell' = true)
    (h63 : n + m ≤ maxLen) (hbytes : (n + m) * bytes ≤ 140737488355328) (hbase : base ≤ w.heap.size)
    (h : ∀ v' w', w'.ownsRow base e size v' (n + m) (xs ++ news) → w.grownBy w' v.ownBlock → K (a.put o.dst v') w') : o.wp P a w K Q := by
  rcases hsrc with ⟨rfl, rfl, rfl, rfl⟩ | ⟨hl, ad, rfl, hnews⟩
  · have hrun := run_append_owned_none (P := P) (w := w) base t o.type e i size ht hi v n xs hown
    unfold Oper.wp
    simp [execOp, ho, resolve, invoke, builtin, hs, hx, hrun, Result.andThen]
    exact h v w (by rw [List.append_nil, Nat.add_zero]; exact hown) ⟨rfl, rfl, rfl, Nat.le_refl _, fun _ _ _ => rfl⟩
  · exact wp_append_own w s x t ho base e i z size bytes ht hi hz hsize hby hzs hsz v n xs hs hown ad m c news hx hl hnews h1 h63 hbytes hbase (fun v' w' a b _ => h v' w' a b)
theorem bvals_snoc (bs : List Nat) (x : Nat) : bvals (bs ++ [x]) = bvals bs ++ [.int .u8 (x : Int)] := by simp [bvals]
theorem intsAt_chg {w w' : World} {a : Option Addr} {zs : List Nat} {M : Nat → Nat → Prop} (h : IntsAt w a zs) (hc : Chg M w w') (hM : ∀ ad, a = some ad → ∀ i, ¬ M ad.block i) : IntsAt w' a zs := by
  rcases h with e | ⟨b, o, e, hcell⟩
  · exact .inl e
  · exact .inr ⟨b, o, e, fun i hi => hc.cell (hcell i hi) (hM _ e _)⟩
theorem bytesAt_same {w w' : World} {g o : Nat} {bs : List Nat} (h : BytesAt w (some ⟨g, o, none⟩) bs) (hg : w'.heap[g]? = w.heap[g]?) : BytesAt w' (some ⟨g, o, none⟩) bs := by
  refine ⟨?_, h.2⟩
  rcases h.1 with e | ⟨b, o', e, hc⟩
  · exact .inl e
  · cases e
    exact .inr ⟨_, _, rfl, fun i hi => (World.cell?_of_block (a := ⟨g, o + i, none⟩) hg).trans (hc i hi)⟩
def subA (a : Option Addr) (l cap : Nat) : Option Addr := if cap = l then a else a.map (·.add (l * 1))
theorem subA_none {a : Option Addr} {l cap : Nat} (hnil : a = none → cap = 0) (h : subA a l cap = none) : cap - l = 0 := by
  unfold subA at h
  split at h
  · omega
  · rw [Option.map_eq_none_iff] at h
    rw [hnil h]; omega
theorem subA_some {b o l cap : Nat} (h : l < cap) : subA (some ⟨b, o, none⟩) l cap = some ⟨b, o + l, none⟩ := by
  unfold subA
  rw [if_neg (by omega), Option.map_some, Nat.mul_one, add_none]
theorem bytesAt_sub {w : World} {a : Option Addr} {bs : List Nat} {cap : Nat} (h : BytesAt w a bs) (hc : bs.length ≤ cap) (l k : Nat) : BytesAt w (subA a l cap) ((bs.take k).drop l) := by
  refine ⟨?_, fun x hx => h.2.1 x (List.mem_of_mem_take (List.mem_of_mem_drop hx)), by rw [List.length_drop, List.length_take]; have := h.2.2; omega⟩
  by_cases h0 : (bs.take k).drop l = []
  · exact .inl h0
  · have h1 := List.length_pos_iff.2 h0
    rw [List.length_drop, List.length_take] at h1
    obtain ⟨b, o, rfl, hcell⟩ := h.some (by omega)
    refine .inr ⟨b, o + l, subA_some (by omega), fun i hi => ?_⟩
    rw [List.length_drop, List.length_take] at hi
    rw [Nat.add_assoc, hcell (l + i) (by omega)]
    simp [List.getD, List.getElem?_take, show l + i < k by omega]
/-- Bytes as a string. -/
def strB (bs : List Nat) : ByteArray := strOfNums (bs.map fun (x : Nat) => (x : Int))
theorem strB_inj {bs cs : List Nat} (hb : ∀ x ∈ bs, x < 256) (hc : ∀ x ∈ cs, x < 256) (h : strB bs = strB cs) : bs = cs := by
  have h1 := congrArg (fun s : ByteArray => s.data.toList) h
  simp only [strB, strOfNums_data, List.map_map] at h1
  have hl : bs.length = cs.length := by have := congrArg List.length h1; simpa using this
  refine List.ext_getElem hl fun i h2 h3 => ?_
  have h4 := congrArg (fun l => l[i]?) h1
  simp only [List.getElem?_map, List.getElem?_eq_getElem h2, List.getElem?_eq_getElem h3, Option.map_some, Option.some.injEq, Function.comp] at h4
  have h5 := congrArg UInt8.toNat h4
  have b1 := hb _ (List.getElem_mem h2)
  have b2 := hc _ (List.getElem_mem h3)
  simp at h5
  omega
theorem strB_eq {bs cs : List Nat} (hb : ∀ x ∈ bs, x < 256) (hc : ∀ x ∈ cs, x < 256) : ((strB bs).toList == (strB cs).toList) = decide (bs = cs) := by
  rw [Bool.eq_iff_iff, beq_iff_eq, decide_eq_true_eq]
  refine ⟨fun h => strB_inj hb hc ?_, fun h => by rw [h]⟩
  rw [Lib.toList_data, Lib.toList_data] at h
  exact ByteArray.ext (Array.toList_inj.1 h)
theorem strB_nil : strB [] = ByteArray.empty := rfl
theorem conv_bytes {w : World} {a : Option Addr} {bs : List Nat} (h : BytesAt w a bs) (cap : Nat) : (convert 68 9 (.slice a bs.length cap)).run Tryd.prog w = .ok (.string (strB bs)) w := by
  cases a with
  | none =>
    have hn : bs = [] := by
      by_cases h0 : bs = []
      · exact h0
      · obtain ⟨b, o, e, _⟩ := h.some (by have := List.length_pos_iff.2 h0; omega)
        cases e
    rw [hn]
    exact run_convert_bytes_nil w 68 5 (by exact Tryd.underlying68) (by exact Tryd.underlying5) _ _ 9 (by exact Tryd.underlying9)
  | some ad =>
    rcases h.1 with e | ⟨b, o, e, hc⟩
    · have hn : bs = [] := e
      subst hn
      rw [run_convert_bytes_string w 68 9 5 _ _ cap Tryd.underlying68 Tryd.underlying5 Tryd.underlying9]
      show (Conv.bytesToString (.slice (some ad) 0 cap)).run Tryd.prog w = _
      rw [run_bytesToString w ad 0 cap [] (by simpa using run_loadCells_list (P := Tryd.prog) w ad [] (fun j v hj => by simp at hj))]
      rfl
    · cases e
      refine run_convert_bytes_arg w 68 5 Tryd.underlying68 Tryd.underlying5 b o bs.length cap _ (by simp) (fun i hi => ?_) 9 Tryd.underlying9
      rw [hc i hi]
      simp [List.getElem?_eq_getElem hi, List.getD]
theorem quiet2 {P : Program} {f : FuncId} {args : Array Value} {w : World} {q n : Nat} {v : Value}
    (h : Calls P f args (w.drewN (q + n)) fun e w' => e = .returned v ∧ w.drewN (q + n) = w') : Calls P f args (w.drewN (q + n)) fun e w'' => e = .returned v ∧ ∃ m, w'' = w.drewN (q + m) :=
  h.mono fun _ _ ⟨he, hm⟩ => ⟨he, n, hm.symm⟩
theorem quiet1 {P : Program} {f : FuncId} {args : Array Value} {w : World} {n : Nat} {v : Value}
    (h : Calls P f args (w.drewN n) fun e w' => e = .returned v ∧ w.drewN n = w') : Calls P f args (w.drewN n) fun e w'' => e = .returned v ∧ ∃ m, w'' = w.drewN m :=
  h.mono fun _ _ ⟨he, hm⟩ => ⟨he, n, hm.symm⟩
theorem Tryd.sizeOf5 (W : World) : (Go.sizeOf 5).run Tryd.prog W = .ok 1 W := by kernel_rfl
theorem Tryd.elemB : Tryd.prog.elem 68 = 5 := by kernel_rfl
theorem Tryd.info5 : (Tryd.prog.info? 5).map (fun i => (i.zero, i.size, i.bytes)) = some (some (.int .u8 0), 1, 1) := by kernel_rfl
theorem Tryd.info3 : (Tryd.prog.info? 3).map (fun i => (i.zero, i.size, i.bytes)) = some (some (.int .i64 0), 1, 8) := by kernel_rfl
theorem Tryd.info9 : (Tryd.prog.info? 9).map (fun i => (i.zero, i.size, i.bytes)) = some (some (.string ByteArray.empty), 1, 16) := by kernel_rfl
theorem slice_lh (a : Option Addr) (n cap l h : Nat) (hl : l ≤ h) (hh : h ≤ cap) (W : World) : (Instr.slice 68 (.slice a n cap) (some (.int .i64 (l : Int))) (some (.int .i64 (h : Int))) none).run Tryd.prog W = .ok (.slice (subA a l cap) (h - l) (cap - l)) W := by
  rw [run_slice_lh W 68 _ _ _ (by rw [Tryd.elemB]; exact Tryd.underlying68) .i64 .i64 _ _ (by omega) (by omega) (by omega), Tryd.elemB, Tryd.sizeOf5]
  simp [Result.andThen, sliced, subA]
theorem slice_h (a : Option Addr) (n cap h : Nat) (hh : h ≤ cap) (W : World) : (Instr.slice 68 (.slice a n cap) none (some (.int .i64 (h : Int))) none).run Tryd.prog W = .ok (.slice (subA a 0 cap) h cap) W := by
  rw [run_slice_h W 68 _ _ _ (by rw [Tryd.elemB]; exact Tryd.underlying68) .i64 _ (by omega) (by omega), Tryd.elemB, Tryd.sizeOf5]
  simp [Result.andThen, sliced, subA]
theorem slice_l (a : Option Addr) (n cap l : Nat) (hl : l ≤ n) (W : World) : (Instr.slice 68 (.slice a n cap) (some (.int .i64 (l : Int))) none none).run Tryd.prog W = .ok (.slice (subA a l cap) (n - l) (cap - l)) W := by
  rw [run_slice_l W 68 _ _ _ (by rw [Tryd.elemB]; exact Tryd.underlying68) .i64 _ (by omega) (by omega), Tryd.elemB, Tryd.sizeOf5]
  simp [Result.andThen, sliced, subA]
end Go.Proofs.YtmnendoloankgaaDoor
