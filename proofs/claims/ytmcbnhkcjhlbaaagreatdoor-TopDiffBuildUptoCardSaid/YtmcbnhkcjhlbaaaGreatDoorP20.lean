/- Texts Tdq, Tdr of the proof, each as a section; no premises beyond those that each theorem states. -/
import Derived.Test.YtmcbnhkcjhlbaaaGreatDoorP19
set_option linter.unusedVariables false
set_option linter.unusedSimpArgs false
section
namespace Go.Proofs.YtmcbnhkcjhlbaaaGreatDoor.Tp
open Go.RowKit
open Kit (Chg)
open Go.Maps
open Go.WideMaps
open Go.Proofs.YtmcbnhkcjhlbaaaGreatDoor.One

theorem FV.ok.ok_chg {M : Nat → Nat → Prop} {w w' : World} {x : FV} (h : x.ok w) (hc : Chg M w w') (hM : x.e.data ≠ [] → ∀ ad, x.a = some ad → ∀ i, ¬ M ad.block i) : x.ok w' := by
  refine ⟨h.nil, h.cap, ?_, h.sp, h.sl, h.sd⟩
  by_cases hd : x.e.data = []
  · exact ⟨.inl hd, h.dat.2⟩
  · exact bytesAt_chg h.dat hc (fun ad e i => hM hd ad e i)
theorem FV.ok.blk {w : World} {x : FV} (h : x.ok w) (hd : x.e.data ≠ []) : ∀ ad, x.a = some ad → ad.block < w.heap.size := fun ad e => by
  obtain ⟨b, o, e2, hc⟩ := h.dat.some (List.length_pos_iff.2 hd)
  rw [e2] at e
  cases e
  exact World.block_lt_of_cell? w _ (hc 0 (List.length_pos_iff.2 hd))
theorem app_at {α : Type} {f : α → List Value} {n : Nat} {T : TypeId} {P : Program} {ST : TypeId} {z : Value} {bytes : Nat} (K : Kind (T := T) P f n ST z bytes) {ops : Array Oper} {rest : List Oper} {o : Oper} {a : Act} {Q : Exit → Act → World → Prop} {w0 : World} (hgd : o.guard = none) (s x : Operand) (ho : o.op = .call { callee := .builtin .append, args := #[s, x], argTypes := #[ST, ST] })
    (base : Nat) (v : Value) (L : Nat) (xs : List α) (hs : a.eval s = v) (hown : w0.ownsRow base T n v L (xs.flatMap f)) (hb : base ≤ w0.heap.size) (hL : L ≤ 5000000)
    (y : α) (cs : Array Value) (hcs : cs = (f y).toArray) (c : Nat) (hx : a.eval x = .slice (some ⟨w0.heap.size, 0, none⟩) 1 c)
    (h : ∀ v' w', w'.ownsRow base T n v' (L + 1) ((xs ++ [y]).flatMap f) → (w0.alloc (.cells cs T)).grownBy w' v.ownBlock → (v'.ownBlock = v.ownBlock ∨ v'.ownBlock = some (w0.heap.size + 1)) → wpList P ops Q rest (a.put o.dst v') w') : wpList P ops Q (o :: rest) a (w0.alloc (.cells cs T)) := by
  obtain ⟨i0, hi, hz0, hz1, hz2⟩ := info_parts3 K.info
  have hy : [y].flatMap f = f y := by simp
  subst hcs
  refine wpList_append_own_at _ hgd s x ST ho base T i0 z n bytes K.under hi hz0 hz1 hz2 K.zlen K.pos v L (xs.flatMap f) hs (hown.alloc _) ⟨w0.heap.size, 0, none⟩ 1 c ([y].flatMap f) hx (by rw [hy, K.len, Nat.one_mul]) (fun j u hu => by rw [add_none]; rw [hy] at hu; exact cells_new_at _ _ _ j u hu) (flat_one K _) (by unfold maxLen; omega) ?_ (by simp; omega) ?_
  · exact Nat.le_trans (Nat.mul_le_mul (show L + 1 ≤ 10000000 by omega) K.most) (by omega)
  intro v' w4 h1 h2 _ hat
  refine h v' w4 (by rw [List.flatMap_append]; exact h1) h2 ?_
  rcases hat with h | h
  · exact .inl h
  · exact .inr (by rw [h]; simp)
theorem wp_app_at {α : Type} {f : α → List Value} {n : Nat} {T : TypeId} {P : Program} {ST : TypeId} {z : Value} {bytes : Nat} (K : Kind (T := T) P f n ST z bytes) {o : Oper} {a : Act} {Q : Exit → Act → World → Prop} {K' : Act → World → Prop} {w0 : World} (s x : Operand) (ho : o.op = .call { callee := .builtin .append, args := #[s, x], argTypes := #[ST, ST] })
    (base : Nat) (v : Value) (L : Nat) (xs : List α) (hs : a.eval s = v) (hown : w0.ownsRow base T n v L (xs.flatMap f)) (hb : base ≤ w0.heap.size) (hL : L ≤ 5000000)
    (y : α) (cs : Array Value) (hcs : cs = (f y).toArray) (c : Nat) (hx : a.eval x = .slice (some ⟨w0.heap.size, 0, none⟩) 1 c)
    (h : ∀ v' w', w'.ownsRow base T n v' (L + 1) ((xs ++ [y]).flatMap f) → (w0.alloc (.cells cs T)).grownBy w' v.ownBlock → (v'.ownBlock = v.ownBlock ∨ v'.ownBlock = some (w0.heap.size + 1)) → K' (a.put o.dst v') w') : o.wp P a (w0.alloc (.cells cs T)) K' Q := by
  obtain ⟨i0, hi, hz0, hz1, hz2⟩ := info_parts3 K.info
  have hy : [y].flatMap f = f y := by simp
  subst hcs
  obtain ⟨v', w', hr, h2, h3, h4, h5⟩ := run_append_own_at (P := P) (w0.alloc (.cells (f y).toArray T)) base ST o.type T i0 z n bytes K.under hi hz0 hz1 hz2 K.zlen K.pos v L (xs.flatMap f) (hown.alloc _) ⟨w0.heap.size, 0, none⟩ 1 c ([y].flatMap f) (by rw [hy, K.len, Nat.one_mul]) (fun j u hu => by rw [add_none]; rw [hy] at hu; exact cells_new_at _ _ _ j u hu) (flat_one K _) (by unfold maxLen; omega) (Nat.le_trans (Nat.mul_le_mul (show L + 1 ≤ 10000000 by omega) K.most) (by omega)) (by simp; omega)
  unfold Oper.wp execOp
  simp only [ho, resolve, invoke, builtin, Sem.run_bind, Sem.run_pure, Result.andThen_ok, List.map_toArray, List.map_cons, List.map_nil, hs, hx, hr]
  refine h v' w' (by rw [List.flatMap_append]; exact h2) h3 ?_
  rcases h5 with h | h
  · exact .inl h
  · exact .inr (by rw [h]; simp)
structure CRow (w : World) (base : Nat) (v : Value) (L : List CV) : Prop where
  own : w.ownsRow base 114 9 v L.length (L.flatMap CV.cells)
  ok : ∀ c ∈ L, c.x.ok w
  off : ∀ c ∈ L, c.x.e.data ≠ [] → ∀ ad, c.x.a = some ad → base ≤ ad.block ∧ v.ownBlock ≠ some ad.block
theorem CRow.nil (w : World) (base : Nat) : CRow w base (.slice none 0 0) [] := ⟨World.ownsRow_nil _ _ _ _, by simp, by simp⟩
theorem CRow.later {w w' : World} {base : Nat} {v : Value} {L : List CV} (h : CRow w base v L) (hb : Below w.heap.size w w') : CRow w' base v L := ⟨own_later h.own hb, fun c hc => (h.ok c hc).later hb, h.off⟩
theorem CRow.grown {w w' : World} {base g : Nat} {v : Value} {L : List CV} (h : CRow w base v L) (hg : w.grownBy w' (some g)) (hlt : g < base) : CRow w' base v L := by
  refine ⟨h.own.kept hg (.inr (fun e => by have := (h.own.lt g e).1; omega)), fun c hc => ?_, h.off⟩
  refine (h.ok c hc).ok_chg (M := fun q _ => q = g) (Chg.of_grown hg (fun q _ e => (Option.some.inj e).symm)) (fun hd ad e i => ?_)
  have := (h.off c hc hd ad e).1
  omega
theorem CRow.snoc {w w' : World} {base : Nat} {v v' : Value} {L : List CV} {y : CV} {o : Obj} (h : CRow w base v L) (hy : y.x.ok w) (hoff : y.x.e.data ≠ [] → ∀ ad, y.x.a = some ad → base ≤ ad.block ∧ v.ownBlock ≠ some ad.block)
    (h1 : w'.ownsRow base 114 9 v' (L.length + 1) ((L ++ [y]).flatMap CV.cells)) (h2 : (w.alloc o).grownBy w' v.ownBlock) (h3 : v'.ownBlock = v.ownBlock ∨ v'.ownBlock = some (w.heap.size + 1)) : CRow w' base v' (L ++ [y]) := by
  have hc : Chg (fun q _ => v.ownBlock = some q) w w' := (Chg.alloc1 w o).trans (Chg.of_grown h2 (fun q _ e => e))
  have key : ∀ x : FV, x.ok w → (x.e.data ≠ [] → ∀ ad, x.a = some ad → base ≤ ad.block ∧ v.ownBlock ≠ some ad.block) → x.ok w' ∧ (x.e.data ≠ [] → ∀ ad, x.a = some ad → base ≤ ad.block ∧ v'.ownBlock ≠ some ad.block) := fun x hx ho => by
    refine ⟨hx.ok_chg hc (fun hd ad e i => (ho hd ad e).2), fun hd ad e => ⟨(ho hd ad e).1, ?_⟩⟩
    rcases h3 with h3 | h3
    · rw [h3]; exact (ho hd ad e).2
    · rw [h3]
      have := hx.blk hd ad e
      intro e2
      have := Option.some.inj e2
      omega
  refine ⟨by rw [List.length_append]; exact h1, fun c hc => ?_, fun c hc => ?_⟩
  · rcases List.mem_append.1 hc with h4 | h4
    · exact (key c.x (h.ok c h4) (h.off c h4)).1
    · rw [List.mem_singleton.1 h4]; exact (key y.x hy hoff).1
  · rcases List.mem_append.1 hc with h4 | h4
    · exact (key c.x (h.ok c h4) (h.off c h4)).2
    · rw [List.mem_singleton.1 h4]; exact (key y.x hy hoff).2
/-! ### what is gone -/
def goneV (g : Bs → Bool) (p : Bs) : Option Value := if g p = true then some (.bool true) else none
def goneK (bs os : List FE) (p : Bs) : Bool := os.any fun e => decide (e.p = p) && !keptB bs e
theorem goneK_iff {bs os : List FE} {p : Bs} : goneK bs os p = true ↔ ∃ e ∈ os, e.p = p ∧ keptB bs e = false := by
  unfold goneK
  rw [List.any_eq_true]
  constructor
  · rintro ⟨e, he, h⟩
    rw [Bool.and_eq_true, decide_eq_true_eq, Bool.not_eq_true'] at h
    exact ⟨e, he, h⟩
  · rintro ⟨e, he, h1, h2⟩
    exact ⟨e, he, by rw [decide_eq_true h1, h2]; rfl⟩
theorem goneK_snoc (bs os : List FE) (e : FE) (p : Bs) : goneK bs (os ++ [e]) p = (goneK bs os p || (decide (e.p = p) && !keptB bs e)) := by
  unfold goneK
  rw [List.any_append]
  simp
theorem goneV_kept (bs os : List FE) (e : FE) (h : keptB bs e = true) (p : Bs) : goneV (goneK bs (os ++ [e])) p = goneV (goneK bs os) p := by
  unfold goneV
  rw [goneK_snoc, h]
  simp
theorem goneV_gone (bs os : List FE) (e : FE) (h : keptB bs e = false) (p : Bs) : goneV (goneK bs (os ++ [e])) p = if p = e.p then some (.bool true) else goneV (goneK bs os) p := by
  unfold goneV
  rw [goneK_snoc, h]
  by_cases h1 : e.p = p
  · rw [if_pos h1.symm, decide_eq_true h1]
    simp
  · rw [if_neg (Ne.symm h1), decide_eq_false h1]
    simp
def srcK (bs os : List FE) (c : Int × ByteArray) : List ByteArray := (os.filter fun e => !keptB bs e && decide (movP e = some c)).map FE.path
theorem srcK_snoc (bs os : List FE) (e : FE) (c : Int × ByteArray) : srcK bs (os ++ [e]) c = if keptB bs e = false ∧ movP e = some c then srcK bs os c ++ [e.path] else srcK bs os c := by
  unfold srcK
  rw [List.filter_append, List.map_append]
  by_cases h : keptB bs e = false ∧ movP e = some c
  · rw [if_pos h]
    simp [h.1, h.2]
  · rw [if_neg h]
    have : (!keptB bs e && decide (movP e = some c)) = false := by
      rw [Bool.eq_false_iff]
      intro h2
      rw [Bool.and_eq_true, Bool.not_eq_true', decide_eq_true_eq] at h2
      exact h h2
    simp [this]
structure SrcM (os : List FE) (g : Bs → Bool) (Src : Int × ByteArray → List ByteArray) : Prop where
  mem : ∀ c s, s ∈ Src c → g s.data.toList = true ∧ ∃ o ∈ os, o.path = s ∧ movP o = some c
  nd : ∀ c, (Src c).Nodup
theorem SrcM.start {bs os : List FE} (h : os.Pairwise (fun a b => cmpP a.p b.p < 0)) : SrcM os (goneK bs os) (srcK bs os) := by
  refine ⟨fun c s hs => ?_, fun c => ?_⟩
  · unfold srcK at hs
    obtain ⟨e, he, rfl⟩ := List.mem_map.1 hs
    rw [List.mem_filter, Bool.and_eq_true, Bool.not_eq_true', decide_eq_true_eq] at he
    exact ⟨goneK_iff.2 ⟨e, he.1, rfl, he.2.1⟩, e, he.1, rfl, he.2.2⟩
  · unfold srcK
    rw [List.nodup_iff_pairwise_ne, List.pairwise_map]
    refine (h.filter _).imp (fun {a b} hab e => ?_)
    exact cmpP_lt_ne hab (by unfold FE.p; rw [e])
theorem SrcM.take {os : List FE} {g : Bs → Bool} {Src : Int × ByteArray → List ByteArray} (h : SrcM os g Src) (ha : os.Pairwise (fun a b => cmpP a.p b.p < 0)) {c : Int × ByteArray} {s : ByteArray} {r : List ByteArray} (hc : Src c = s :: r) : SrcM os (fun p => if p = s.data.toList then false else g p) (fun x => if x = c then r else Src x) := by
  obtain ⟨hs, o, ho, hop, hom⟩ := h.mem c s (by rw [hc]; simp)
  have hnd := h.nd c
  rw [hc, List.nodup_cons] at hnd
  refine ⟨fun x t ht => ?_, fun x => ?_⟩
  · have ht2 : t ∈ Src x ∧ t ≠ s := by
      by_cases e : x = c
      · simp only [if_pos e] at ht
        refine ⟨by rw [e, hc]; exact List.mem_cons_of_mem _ ht, fun e2 => hnd.1 (e2 ▸ ht)⟩
      · simp only [if_neg e] at ht
        refine ⟨ht, fun e2 => ?_⟩
        obtain ⟨_, o2, ho2, hp2, hm2⟩ := h.mem x t ht
        have : o2 = o := asc_inj ha ho2 ho (by unfold FE.p; rw [hp2, hop, e2])
        rw [this, hom] at hm2
        exact e (Option.some.inj hm2).symm
    obtain ⟨h1, h2⟩ := h.mem x t ht2.1
    refine ⟨?_, h2⟩
    show (if t.data.toList = s.data.toList then false else g t.data.toList) = true
    rw [if_neg (fun e => ht2.2 (str_ext e))]
    exact h1
  · show (if x = c then r else Src x).Nodup
    split
    · exact hnd.2
    · exact h.nd x
def SrcR (w : World) (lo hi : Nat) (S : Int × ByteArray → Option Value) (Src : Int × ByteArray → List ByteArray) : Prop :=
  ∀ c, ((S c).getD (.slice none 0 0) = .slice none 0 0 ∧ Src c = []) ∨ ∃ b o cap, S c = some (.slice (some ⟨b, o, none⟩) (Src c).length cap) ∧ (Src c).length ≤ cap ∧ cap ≤ maxLen ∧ lo ≤ b ∧ b < hi ∧ ∀ k (h : k < (Src c).length), w.cell? ⟨b, o + k, none⟩ = some (.string (Src c)[k])
theorem SrcR.of {w : World} {base : Nat} {S : Int × ByteArray → Option Value} {Src : Int × ByteArray → List ByteArray} (h : SrcsAt w base S Src) : SrcR w base w.heap.size S Src := fun c => by
  cases hc : S c with
  | none => exact .inl ⟨rfl, h.no c hc⟩
  | some v =>
    have hr := h.row c v hc
    obtain ⟨a, cap, hv, hl, h1, h2, h3, h4, h5⟩ := rows_of_own (n := 1) (fun _ => rfl) (by decide) hr
    subst hv
    cases a with
    | none =>
      have := h4 rfl
      subst this
      have h0 : (Src c).length = 0 := by omega
      have hx := List.eq_nil_of_length_eq_zero h0
      exact .inl ⟨by rw [hx]; rfl, hx⟩
    | some ad =>
      by_cases h0 : Src c = []
      · obtain ⟨h6, h7, h8⟩ := h5 ad rfl
        obtain ⟨ab, ao, ax⟩ := ad
        have hx : ax = none := by
          rcases hr.2 with ⟨e, _⟩ | ⟨g, cap', cur, e, _⟩
          · cases e
          · injection e with e1 _ _
            injection e1 with e1
            cases e1
            rfl
        subst hx
        exact .inr ⟨ab, ao, cap, rfl, h1, h2, h6, h7, fun k hk => by rw [h0] at hk; simp at hk⟩
      · rcases h3 with h3 | ⟨b, o, e, h3⟩
        · exact absurd h3 h0
        · obtain ⟨h6, h7, h8⟩ := h5 ad rfl
          cases e
          exact .inr ⟨b, o, cap, rfl, h1, h2, h6, h7, fun k hk => by have := h3 k hk 0 (by decide); rw [Nat.mul_one, Nat.add_zero] at this; exact this⟩
theorem SrcR.low {w w' : World} {lo hi : Nat} {S : Int × ByteArray → Option Value} {Src : Int × ByteArray → List ByteArray} (h : SrcR w lo hi S Src) (hb : ∀ q, lo ≤ q → q < hi → w'.heap[q]? = w.heap[q]?) : SrcR w' lo hi S Src := fun c => by
  rcases h c with h1 | ⟨b, o, cap, h1, h2, h3, h4, h5, h6⟩
  · exact .inl h1
  · refine .inr ⟨b, o, cap, h1, h2, h3, h4, h5, fun k hk => ?_⟩
    rw [← h6 k hk]
    unfold World.cell?
    simp only [hb b h4 h5]
theorem SrcR.take {w : World} {lo hi : Nat} {S : Int × ByteArray → Option Value} {Src : Int × ByteArray → List ByteArray} (h : SrcR w lo hi S Src) {c : Int × ByteArray} {s : ByteArray} {r : List ByteArray} (hc : Src c = s :: r) : ∃ b o cap, S c = some (.slice (some ⟨b, o, none⟩) (r.length + 1) cap) ∧ r.length + 1 ≤ cap ∧ cap ≤ maxLen ∧ lo ≤ b ∧ b < hi ∧ w.cell? ⟨b, o, none⟩ = some (.string s) ∧
    ∀ o' cap', (r ≠ [] → o' = o + 1) → r.length ≤ cap' → cap' ≤ maxLen → SrcR w lo hi (fun x => if x = c then some (.slice (some ⟨b, o', none⟩) r.length cap') else S x) (fun x => if x = c then r else Src x) := by
  rcases h c with ⟨_, h1⟩ | ⟨b, o, cap, h1, h2, h3, h4, h5, h6⟩
  · rw [h1] at hc; cases hc
  · rw [hc, List.length_cons] at h1 h2
    have h7 := h6 0 (by rw [hc]; simp)
    have e0 : (Src c)[0]'(by rw [hc]; simp) = s := by simp [hc]
    rw [e0] at h7
    refine ⟨b, o, cap, h1, h2, h3, h4, h5, h7, fun o' cap' q0 q1 q2 x => ?_⟩
    by_cases e : x = c
    · simp only [if_pos e]
      refine .inr ⟨b, o', cap', rfl, q1, q2, h4, h5, fun k hk => ?_⟩
      rw [q0 (fun e => by rw [e] at hk; simp at hk)]
      have h8 := h6 (k + 1) (by rw [hc, List.length_cons]; omega)
      have e1 : (Src c)[k + 1]'(by rw [hc, List.length_cons]; omega) = r[k] := by simp [hc]
      rw [e1] at h8
      rw [← h8]
      congr 2
      omega
    · simp only [if_neg e]
      exact h x
end Go.Proofs.YtmcbnhkcjhlbaaaGreatDoor.Tp
end
section
namespace Go.Proofs.YtmcbnhkcjhlbaaaGreatDoor.Tp
open Go.RowKit
open Kit (Chg)
open Go.Maps
open Go.WideMaps
open Go.Proofs.YtmcbnhkcjhlbaaaGreatDoor.One

def sndC : Code → Code
  | .seq _ b => b
  | c => c
def sndN : Nat → Code → Code
  | 0, c => c
  | n + 1, c => sndN n (sndC c)
theorem nodup_len : ∀ (l m : List Bs), l.Nodup → (∀ x ∈ l, x ∈ m) → l.length ≤ m.length
  | [], m, _, _ => Nat.zero_le _
  | a :: l, m, h, hs => by
    rw [List.nodup_cons] at h
    have h1 := nodup_len l (m.erase a) h.2 (fun x hx => by
      rw [List.mem_erase_of_ne (fun e => by subst e; exact h.1 hx)]
      exact hs x (List.mem_cons_of_mem _ hx))
    have h2 : a ∈ m := hs a (by simp)
    have h3 := List.length_erase_of_mem h2
    have h4 := List.length_pos_of_mem h2
    rw [List.length_cons]
    omega
theorem len_parts : ∀ (L : List CV), (∀ c ∈ L, c.good) → L.length ≤ (L.filterMap takeOf).length + (L.filterMap putOf).length + (L.filterMap modOf).length
  | [], _ => Nat.zero_le _
  | c :: L, h => by
    have h1 := len_parts L (fun x hx => h x (List.mem_cons_of_mem _ hx))
    rcases (h c (by simp)).k with k | k | k | k <;> simp only [List.filterMap_cons, takeOf, putOf, modOf, k] <;> simp <;> omega
theorem Mid.len {os bs : List FE} {j : Nat} {L : List CV} {g : Bs → Bool} (h : Mid os bs j L g) : L.length ≤ os.length + 2 * bs.length := by
  have h0 := len_parts L h.good
  have h1 := nodup_len _ (os.map FE.p) h.tnd (fun p hp => by
    obtain ⟨e, he, h1, _⟩ := (h.tg p).1 (.inr hp)
    exact List.mem_map.2 ⟨e, he, h1⟩)
  have h2 := nodup_len _ (bs.map FE.p) h.pnd (fun p hp => by
    obtain ⟨e, he, h1⟩ := h.ppath p hp
    exact List.mem_map.2 ⟨e, List.mem_of_mem_take he, h1⟩)
  have h3 := nodup_len _ (bs.map FE.p) h.mnd (fun p hp => by
    obtain ⟨e, he, h1⟩ := h.mpath p hp
    exact List.mem_map.2 ⟨e, List.mem_of_mem_take he, h1⟩)
  rw [List.length_map] at h1 h2 h3
  omega
theorem CRow.iter {w w' : World} {base r : Nat} {v : Value} {L : List CV} (h : CRow w base v L) (hg : w.grownBy w' (some r)) (hi : ∃ m s q c, w.heap[r]? = some (.mapIter m s q c)) : CRow w' base v L := by
  obtain ⟨im, is, iq, ic, hi⟩ := hi
  refine ⟨h.own.kept hg ?_, fun c hc => ?_, h.off⟩
  · rcases h.own.2 with ⟨e, _⟩ | ⟨g, cap, cur, e, _, h2, _⟩
    · exact .inl (by rw [e]; rfl)
    · refine .inr (fun e2 => ?_)
      rw [e] at e2
      have : g = r := by simpa [Value.ownBlock] using e2
      rw [this, hi] at h2
      cases h2
  · refine (h.ok c hc).ok_chg (M := fun q _ => q = r) (Chg.of_grown hg (fun q _ e => (Option.some.inj e).symm)) (fun hd ad e i e2 => ?_)
    obtain ⟨b, o, e3, hcell⟩ := (h.ok c hc).dat.some (List.length_pos_iff.2 hd)
    have h1 := hcell 0 (List.length_pos_iff.2 hd)
    rw [e3] at e
    cases e
    simp only at e2
    rw [e2] at h1
    unfold World.cell? at h1
    simp [hi] at h1
def strVal (p : Bs) : Value := .string ⟨p.toArray⟩
def DiffP (os bs : List FE) (w : World) (e : Ending) (w' : World) : Prop := ∃ (v : Value) (L : List CV) (B : Nat), e = .returned v ∧ w.heap.size ≤ B ∧ CRow w' B v L ∧ L.length ≤ 20000 ∧ DiffOf os bs L ∧ Below w.heap.size w w'
set_option maxRecDepth 100000 in
set_option maxHeartbeats 4000000 in
theorem diff_rest3 (os bs : List FE) (w V : World) (bg B2 n1 j : Nat) (v : Value) (out : List CV) (g : Bs → Bool) (hM : Mid os bs j out g) (hj : bs.length ≤ j) (hlo : os.length ≤ 4096) (hlb : bs.length ≤ 4096) (hok : ∀ e ∈ os, e.ok) (hG : MapS V bg n1 (goneV g)) (hrow : CRow V B2 v out) (hB2 : B2 ≤ V.heap.size) (hbg : bg < B2) (hw : w.heap.size ≤ B2) (hbel : Below w.heap.size w V) (y0 y1 y2 y3 y4 y5 y6 y8 y9 y10 y11 y12 y13 y14 y16 y17 y18 y19 y20 y21 y22 y23 y24 y25 y26 y27 y28 y29 y30 y31 y32 y33 y34 y35 y36 y37 y38 y39 y40 y41 y42 y43 y44 y45 y46 y47 y48 y49 y50 y51 y52 y53 y54 y55 y56 y57 y58 y59 y60 y61 y62 y63 y64 y65 y66 y67 y68 y69 y70 y71 y72 y73 y74 y75 y76 y77 y78 y79 y80 y81 y82 y83 y84 y85 y86 y87 y88 y89 y90 y91 y92 y93 y94 y95 y96 y97 y98 y99 y100 y101 y102 y103 y104 y105 y106 y107 y108 y109 y110 y111 y112 y113 y114 y115 y116 y117 y118 y119 y120 y121 y122 y123 y124 y125 y126 y127 y128 y129 y130 y131 y132 y133 y134 y135 y136 y137 y138 y139 y140 y141 y142 y143 y144 y145 y146 y147 y148 y149 y150 y151 y152 y153 y154 y155 : Value) :
    Code.wp Tryz.prog (sndN 7 ((Tryz.f39.body).getD .skip)) (bodyPost Tryz.prog Tryz.f39 (DiffP os bs w)) ⟨#[y0, y1, y2, y3, y4, y5, y6, .map (some bg), y8, y9, y10, y11, y12, y13, y14, v, y16, y17, y18, y19, y20, y21, y22, y23, y24, y25, y26, y27, y28, y29, y30, y31, y32, y33, y34, y35, y36, y37, y38, y39, y40, y41, y42, y43, y44, y45, y46, y47, y48, y49, y50, y51, y52, y53, y54, y55, y56, y57, y58, y59, y60, y61, y62, y63, y64, y65, y66, y67, y68, y69, y70, y71, y72, y73, y74, y75, y76, y77, y78, y79, y80, y81, y82, y83, y84, y85, y86, y87, y88, y89, y90, y91, y92, y93, y94, y95, y96, y97, y98, y99, y100, y101, y102, y103, y104, y105, y106, y107, y108, y109, y110, y111, y112, y113, y114, y115, y116, y117, y118, y119, y120, y121, y122, y123, y124, y125, y126, y127, y128, y129, y130, y131, y132, y133, y134, y135, y136, y137, y138, y139, y140, y141, y142, y143, y144, y145, y146, y147, y148, y149, y150, y151, y152, y153, y154, y155], []⟩ V := by
  have HM := Lib.hid hM
  have HJ := Lib.hid hj
  have HLO := Lib.hid hlo
  have HLB := Lib.hid hlb
  have HOK := Lib.hid hok
  have HROW := Lib.hid hrow
  have HB2 := Lib.hid hB2
  have HBG := Lib.hid hbg
  have HW := Lib.hid hw
  have HBEL := Lib.hid hbel
  have hsz : ∀ p, g p = true → p.length ≤ 512 := fun p hp => by
    obtain ⟨e, he, h1, _⟩ := (hM.tg p).1 (.inl hp)
    rw [← h1]
    exact (hok e he).vp.len
  have HSZ := Lib.hid hsz
  have HBLT := Lib.hid hG.lt
  obtain ⟨w0, hrun0, ⟨cnt0, hr0⟩, hb0, hs0⟩ := MapV.range (t := 49) (e := 4) hG strK Tryz.underlying49
  have HR0 := Lib.hid hr0
  have HB0 := Lib.hid hb0
  have HS0 := Lib.hid hs0
  clear hM hj hlo hlb hok hrow hB2 hbg hw hbel hsz hr0 hb0 hs0 hG
  dsimp only [sndN, sndC, Tryz.f39, Option.getD]
  go_upto_region 32 with fail
  clear hrun0
  obtain ⟨rr, hrr⟩ := ex_eq V.heap.size
  have HRR := Lib.hid hrr
  rw [hrr] at HR0 HS0 ⊢
  clear hrr
  go_loopw [15] (fun v wr => ∃ (lf : Value → Prop) (cnt : Nat) (g' : Bs → Bool) (L : List CV), Hid (RangeV Tryz.prog 9 wr bg rr n1 (liftS (goneV g)) lf cnt) ∧ Hid (Mid os bs j L g') ∧ Hid (∀ p, g' p = true → lf (strVal p)) ∧ Hid (∀ s : ByteArray, lf (.string s) → g' s.data.toList = true) ∧ Hid (CRow wr B2 v L) ∧ Hid (Below B2 V wr) ∧ Hid (rr + 1 ≤ wr.heap.size)) (fun _ wr => wr.rangeLeft bg rr)
  case atStart =>
    refine ⟨_, cnt0, g, out, HR0, HM, Lib.hid (fun p hp => ?_), Lib.hid (fun s hs => ?_), Lib.hid (HROW.out.later HB0.out), Lib.hid (HB0.out.mono HB2.out), Lib.hid (Nat.le_of_eq HS0.out.symm)⟩
    · show (liftS (goneV g) (strVal p)).isSome = true
      show (goneV g p).isSome = true
      unfold goneV
      rw [if_pos hp]
      rfl
    · have hs : (goneV g s.data.toList).isSome = true := hs
      unfold goneV at hs
      by_cases h : g s.data.toList = true
      · exact h
      · rw [if_neg h] at hs; cases hs
  case round =>
    obtain ⟨lf, cnt, g', L, HRV, HMD, HL1, HL2, HRW, HBE, HRL⟩ := hrel
    rcases HRV.out.next strK 0 with ⟨hd, hrun⟩ | ⟨key, kl, v0, w1, cnt1, hk, hlf, hfv, hrun, hr1, hlt, hgr, hsz, hen⟩
    · have HD : Hid (∀ p, g' p = false) := Lib.hid (fun p => by
        rw [Bool.eq_false_iff]
        intro hp
        have h1 := HL1.out p hp
        obtain ⟨e, he, h2, _⟩ := (HMD.out.tg p).1 (.inl hp)
        have h3 : e.p.length ≤ 512 := (HOK.out e he).vp.len
        rw [h2] at h3
        refine hd (strVal p) _ (keyS (s := ⟨p.toArray⟩) ?_) h1
        show p.toArray.size ≤ maxLen
        unfold maxLen
        simp
        omega)
      have HDF := Lib.hid (HMD.out.done HJ.out HD.out)
      have HLEN : Hid (L.length ≤ 20000) := Lib.hid (by have := HMD.out.len; have := HLO.out; have := HLB.out; omega)
      have HSO := Lib.hid (sortCh_any (n := L.length) u15 L (by have := HLEN.out; omega) (fun c hc => by
        have h1 := HDF.out.good c hc
        refine ⟨by rcases h1.k with k | k | k | k <;> omega, by rcases h1.k with k | k | k | k <;> omega, ?_⟩
        by_cases hk1 : c.kind = 1
        · have h2 := (h1.rem hk1).1.len
          rw [bytes_len] at h2
          omega
        · have h2 := congrArg List.length (good_p h1 hk1)
          have h3 := (HRW.out.ok c hc).sp
          unfold CV.p FE.p at h2
          rw [bytes_len, bytes_len] at h2
          omega) wr HRW.out.own)
      clear hd
      go_upto_region 35 with fail
      clear hrun
      go_wp2_with (first
        | (go_at_call 83
           (with_reducible refine HSO.out.mono ?_)
           rintro e w2 ⟨rfl, ys, hperm, hown, hchg⟩
           have HPM := Lib.hid hperm
           have HOW := Lib.hid hown
           have HCG := Lib.hid hchg
           clear hperm hown hchg))
      go_ret
      refine ⟨u15, ys, B2, rfl, HW.out, ⟨by rw [HPM.out.length_eq]; exact HOW.out, fun c hc => ?_, fun c hc => HRW.out.off c (HPM.out.mem_iff.1 hc)⟩, by rw [HPM.out.length_eq]; exact HLEN.out, HDF.out.perm HPM.out, ?_⟩
      · have hc2 := HPM.out.mem_iff.1 hc
        exact (HRW.out.ok c hc2).ok_chg HCG.out (fun hd ad e i e2 => (HRW.out.off c hc2 hd ad e).2 e2.symm)
      · refine (HBEL.out.trans (HBE.out.mono HW.out)).trans (HCG.out.below (by have h1 := HBEL.out.size; have h2 := HBE.out.size; omega) (fun q i hq e => ?_))
        have := (HRW.out.own.lt q e.symm).1
        have := HW.out
        omega
    · obtain ⟨s, rfl, hsl⟩ := keyS_inv hk
      have HGS := Lib.hid (HL2.out s hlf)
      have HSL := Lib.hid hsl
      have HRW1 := Lib.hid (HRW.out.iter hgr HRV.out.isIter)
      have HR1 := Lib.hid hr1
      have HLT := Lib.hid hlt
      have HB1 : Hid (Below B2 V w1) := Lib.hid (HBE.out.grown hgr (by have := HBE.out.size; have := HB2.out; omega) (fun q e => by cases e; rw [← HRR.out]; exact HB2.out))
      have HZ1 : Hid (rr + 1 ≤ w1.heap.size) := Lib.hid (by have := HRL.out; omega)
      have HIT := Lib.hid hr1.isIter
      obtain ⟨e, he, hep, _⟩ := (HMD.out.tg s.data.toList).1 (.inl HGS.out)
      have HGD : Hid ((⟨1, s, ByteArray.empty, fvZero⟩ : CV).good) := Lib.hid (by
        refine ⟨.inl rfl, fun _ => ⟨?_, rfl, rfl⟩, (fun h => by cases h), (fun h => by rcases h with h | h <;> cases h)⟩
        show VP s.data.toList
        rw [← hep]
        exact (HOK.out e he).vp)
      have HMR : Hid (Mid os bs j (L ++ [⟨1, s, ByteArray.empty, fvZero⟩]) (fun p => if p = s.data.toList then false else g' p)) := Lib.hid (HMD.out.rem ⟨1, s, ByteArray.empty, fvZero⟩ HGD.out rfl HGS.out (fun p => rfl))
      have HLN : Hid (L.length ≤ 5000000) := Lib.hid (by have := HMD.out.len; have := HLO.out; have := HLB.out; omega)
      clear hk hlf hfv hr1 hlt hgr hsz he hep hsl
      go_upto_region 34 with fail
      clear hrun hen
      go_wp2_with (first
        | (at_builtin
           refine app_at kindCV rfl _ _ rfl B2 u15 L.length L (by rfl) HRW1.out.own (by have := HB1.out.size; have := HB2.out; omega) HLN.out ⟨1, s, ByteArray.empty, fvZero⟩ _ (by rfl) 1 (by rfl) ?_
           intro v' w3 h1 h2 h3
           have H1 := Lib.hid h1
           have H2 := Lib.hid h2
           have H3 := Lib.hid h3
           clear h1 h2 h3))
      have HRW3 := Lib.hid (HRW1.out.snoc (fvZero_ok _) (fun hd => absurd rfl hd) H1.out H2.out H3.out)
      have HCH : Hid (Chg (fun q _ => u15.ownBlock = some q) w1 w3) := Lib.hid ((Chg.alloc1 w1 _).trans (Chg.of_grown H2.out (fun q _ e => e)))
      have HR3 : Hid (RangeV Tryz.prog 9 w3 bg rr n1 (liftS (goneV g)) (fun x => lf x ∧ x ≠ .string s) cnt1) := Lib.hid (HR1.out.keep (HCH.out.other bg (by have := HBLT.out; have := HZ1.out; have := HRR.out; omega) (fun i e => by have := (HRW1.out.own.lt bg e).1; have := HBG.out; omega)) (HCH.out.other rr (by have := HZ1.out; omega) (fun i e => by
        obtain ⟨im, is, iq, ic, hi⟩ := HIT.out
        rcases HRW1.out.own.2 with ⟨e2, _⟩ | ⟨g2, cap, cur, e2, _, h4, _⟩
        · rw [e2] at e; cases e
        · rw [e2] at e
          have : g2 = rr := by simpa [Value.ownBlock] using e
          rw [this, hi] at h4
          cases h4)))
      have HB3 : Hid (Below B2 V w3) := Lib.hid (HB1.out.trans (HCH.out.below (by have := HB1.out.size; have := HB2.out; omega) (fun q i hq e => by have := (HRW1.out.own.lt q e).1; omega)))
      have HZ3 : Hid (rr + 1 ≤ w3.heap.size) := Lib.hid (by have := HCH.out.size; have := HZ1.out; omega)
      go_roundw
      case rel =>
        refine ⟨_, cnt1, _, _, HR3, HMR, Lib.hid (fun p hp => ?_), Lib.hid (fun t ht => ?_), HRW3, HB3, HZ3⟩
        · by_cases e : p = s.data.toList
          · rw [if_pos e] at hp; cases hp
          · rw [if_neg e] at hp
            refine ⟨HL1.out p hp, fun e2 => e ?_⟩
            have e3 : (⟨p.toArray⟩ : ByteArray) = s := by injection e2
            rw [← e3]
        · rw [if_neg]
          · exact HL2.out t ht.1
          · intro e
            exact ht.2 (by rw [str_ext e])
      case measure => rw [HR3.out.left_eq, HRV.out.left_eq]; exact HLT.out
end Go.Proofs.YtmcbnhkcjhlbaaaGreatDoor.Tp
end
