/- Texts Tnj, Tnk of the proof, each as a section; no premises beyond those that each theorem states. -/
import Derived.Test.YtmcbnhkcjhlbaaaGreatDoorP21
import Derived.Test.YtmcbnhkcjhlbaaaGreatDoorP28
set_option linter.unusedVariables false
set_option linter.unusedSimpArgs false
section
namespace Go.Proofs.YtmcbnhkcjhlbaaaGreatDoor.Tp
open Go.RowKit
open Kit (Chg)
open Go.Maps
open Go.WideMaps
open Go.Proofs.YtmcbnhkcjhlbaaaGreatDoor.One

theorem trim_slash {p l : Bs} (h : (p = [] ∧ l = lastP l) ∨ (p ≠ [] ∧ l = p ++ 47 :: lastP l)) : Lib.trimPrefix (l.drop p.length) [47] = lastP l := by
  rcases h with ⟨h1, h2⟩ | ⟨h1, h2⟩
  · subst h1
    rw [List.length_nil, List.drop_zero]
    have hf : 47 ∉ l := by rw [h2]; exact lastP_free l
    unfold Lib.trimPrefix
    rw [if_neg, ← h2]
    intro h3
    cases l with
    | nil => simp [Lib.hasPrefix] at h3
    | cons c l =>
      apply hf
      have : 47 = c := by simpa [Lib.hasPrefix] using h3
      rw [← this]; simp
  · have h3 : l.drop p.length = 47 :: lastP l := by
      conv => lhs; rw [h2]
      rw [List.drop_left]
    rw [h3]
    simp [Lib.trimPrefix, Lib.hasPrefix]
set_option maxRecDepth 100000 in
set_option maxHeartbeats 2000000 in
theorem name_ok (d s : ByteArray) (hv : VP s.data.toList) (hd : d.data.toList = parP s.data.toList) (w : World) : Calls Tryz.prog 72 #[.string d, .string s] w fun e w' => e = .returned (.string (lastB s.data.toList)) ∧ w' = w := by
  have hds : d.size ≤ s.size := by
    have h1 := congrArg List.length hd
    rw [bytes_len] at h1
    have h2 := joinP_dropLast s.data.toList
    rw [bytes_len] at h2
    omega
  have hdz : (d.size : Int) ≤ (s.size : Int) := by omega
  obtain ⟨x, hx⟩ : ∃ x, s.extract d.size s.size = x := ⟨_, rfl⟩
  have HX : Hid ((⟨(Lib.trimPrefix x.data.toList (⟨#[47]⟩ : ByteArray).data.toList).toArray⟩ : ByteArray) = lastB s.data.toList) := Lib.hid (by
    rw [← hx, extract_data]
    have h1 : d.size = (parP s.data.toList).length := by rw [← hd, bytes_len]
    have h2 : (s.data.toList.take s.size).drop d.size = s.data.toList.drop (parP s.data.toList).length := by rw [List.take_of_length_le (by rw [bytes_len]; exact Nat.le_refl _), h1]
    have h3 : Lib.trimPrefix (s.data.toList.drop (parP s.data.toList).length) [47] = lastP s.data.toList := by
      refine trim_slash ?_
      rcases hv.par with ⟨h1, h2, _⟩ | h
      · exact .inl ⟨h1, h2⟩
      · exact .inr h
    unfold lastB
    rw [← h3, ← h2])
  have HT : Hid (∀ W, Calls Tryz.prog 118 #[.string x, .string ⟨#[47]⟩] W fun e w' => e = .returned (.string (lastB s.data.toList)) ∧ w' = W) := Lib.hid (fun W => (strings_TrimPrefix x ⟨#[47]⟩ W).mono (fun e w' h => ⟨by rw [h.1, HX.out], h.2⟩))
  clear hv hd
  go_enter Tryz.func72, Tryz.ntmps72
  go_wp2_with (first | (go_at_call 118; (try rw [hx]); (with_reducible refine (HT.out _).mono ?_); rintro e w1 ⟨rfl, rfl⟩))
  go_ret
  exact ⟨rfl, rfl⟩
structure IRow (w : World) (base : Nat) (v : Value) (L : List IV) : Prop where
  own : w.ownsRow base 149 10 v L.length (L.flatMap IV.cells)
  ok : ∀ x ∈ L, x.ok w
  off : ∀ x ∈ L, ∀ ad, x.a = some ad → base ≤ ad.block ∧ ad.block < w.heap.size ∧ v.ownBlock ≠ some ad.block
theorem IRow.nil (w : World) (base : Nat) : IRow w base (.slice none 0 0) [] := ⟨World.ownsRow_nil _ _ _ _, by simp, by simp⟩
theorem IV.ok.chg {w w' : World} {x : IV} {M : Nat → Nat → Prop} (h : x.ok w) (hc : Chg M w w') (hM : ∀ ad, x.a = some ad → ∀ i, ¬ M ad.block i) : x.ok w' := ⟨h.cap, h.row.chg RefP.len hc (fun ad e _ => hM ad e)⟩
theorem IRow.chg {w w' : World} {base : Nat} {v : Value} {L : List IV} {M : Nat → Nat → Prop} (h : IRow w base v L) (hc : Chg M w w') (h1 : ∀ q, v.ownBlock = some q → ∀ i, ¬ M q i) (h2 : ∀ x ∈ L, ∀ ad, x.a = some ad → ∀ i, ¬ M ad.block i) : IRow w' base v L :=
  ⟨ownsRow_keepM h.own hc h1, fun x hx => (h.ok x hx).chg hc (h2 x hx), fun x hx ad e => by have h3 := h.off x hx ad e; have := hc.size; exact ⟨by omega, by omega, h3.2.2⟩⟩
theorem IRow.later {w w' : World} {base : Nat} {v : Value} {L : List IV} (h : IRow w base v L) (hb : Below w.heap.size w w') : IRow w' base v L := h.chg (Chg.of_below (M := fun _ _ => False) hb) (fun _ _ _ h => h) (fun _ _ _ _ _ h => h)
theorem IRow.snoc {w w' : World} {base : Nat} {v v' : Value} {L : List IV} {y : IV} {o : Obj} (h : IRow w base v L) (hy : y.ok w) (hoff : ∀ ad, y.a = some ad → base ≤ ad.block ∧ ad.block < w.heap.size ∧ v.ownBlock ≠ some ad.block)
    (h1 : w'.ownsRow base 149 10 v' (L.length + 1) ((L ++ [y]).flatMap IV.cells)) (h2 : (w.alloc o).grownBy w' v.ownBlock) (h3 : v'.ownBlock = v.ownBlock ∨ v'.ownBlock = some (w.heap.size + 1)) : IRow w' base v' (L ++ [y]) := by
  have hc : Chg (fun q _ => v.ownBlock = some q) w w' := (Chg.alloc1 w o).trans (Chg.of_grown h2 (fun q _ e => e))
  have key : ∀ x : IV, x.ok w → (∀ ad, x.a = some ad → base ≤ ad.block ∧ ad.block < w.heap.size ∧ v.ownBlock ≠ some ad.block) → x.ok w' ∧ ∀ ad, x.a = some ad → base ≤ ad.block ∧ ad.block < w'.heap.size ∧ v'.ownBlock ≠ some ad.block := fun x hx ho => by
    refine ⟨hx.chg hc (fun ad e i e2 => (ho ad e).2.2 e2), fun ad e => ⟨(ho ad e).1, Nat.lt_of_lt_of_le (ho ad e).2.1 hc.size, ?_⟩⟩
    rcases h3 with h3 | h3
    · rw [h3]; exact (ho ad e).2.2
    · rw [h3]
      intro e2
      have := Option.some.inj e2
      have := (ho ad e).2.1
      omega
  refine ⟨by rw [List.length_append]; exact h1, fun x hx => ?_, fun x hx => ?_⟩
  · rcases List.mem_append.1 hx with h4 | h4
    · exact (key x (h.ok x h4) (h.off x h4)).1
    · rw [List.mem_singleton.1 h4]; exact (key y hy hoff).1
  · rcases List.mem_append.1 hx with h4 | h4
    · exact (key x (h.ok x h4) (h.off x h4)).2
    · rw [List.mem_singleton.1 h4]; exact (key y hy hoff).2
def IFree (v : Value) (L : List IV) (blv : Value) (bl : List BV) : Prop := (∀ q, v.ownBlock = some q → Free q blv bl) ∧ ∀ x ∈ L, ∀ ad, x.a = some ad → Free ad.block blv bl
theorem IFree.nil (blv : Value) (bl : List BV) : IFree (.slice none 0 0) [] blv bl := ⟨(fun q e => by cases e), by simp⟩
theorem IRow.step {w w' : World} {base g bi bk N0 n : Nat} {K : KV} {c : Ck.Chk.Cut} {v blv blv' : Value} {L : List IV} {bl bl' : List BV} (h : IRow w base v L) (hf : IFree v L blv bl) (hS : BS w g bi bk N0 n K c blv bl) (hb : N0 ≤ base) (ht : Bt g bk blv bl blv' bl' w w') : IRow w' base v L ∧ IFree v L blv' bl' := by
  have hl := hS.lt
  refine ⟨h.chg ht.chg (fun q hq => ht.keeps (h.own.lt q hq).2 (by have := (h.own.lt q hq).1; omega) (by have := (h.own.lt q hq).1; omega) (hf.1 q hq)) (fun x hx ad e => ht.keeps (h.off x hx ad e).2.1 (by have := (h.off x hx ad e).1; omega) (by have := (h.off x hx ad e).1; omega) (hf.2 x hx ad e)), fun q hq => ht.free (hf.1 q hq) (h.own.lt q hq).2, fun x hx ad e => ht.free (hf.2 x hx ad e) (h.off x hx ad e).2.1⟩
structure Items (w : World) (g bi bk N0 : Nat) (es : List FE) (ni : Nat) (S : Bs → Option Value) : Prop where
  map : MapS w bi ni S
  row : ∀ p v, S p = some v → ∃ a cap xs, v = .slice a xs.length cap ∧ xs.length ≤ cap ∧ xs.map FV.e = kidsF es p ∧ FEsAt w a xs ∧ (∀ ad, a = some ad → xs ≠ [] → ad.block < N0 ∧ ad.block ≠ g ∧ ad.block ≠ bk) ∧ (∀ x ∈ xs, x.e.data ≠ [] → ∀ ad, x.a = some ad → ad.block < N0 ∧ ad.block ≠ g ∧ ad.block ≠ bk)
  no : ∀ p, S p = none → kidsF es p = []
theorem FEsAt.chg {w w' : World} {a : Option Addr} {xs : List FV} {M : Nat → Nat → Prop} (h : FEsAt w a xs) (hc : Chg M w w') (h1 : ∀ ad, a = some ad → xs ≠ [] → ∀ i, ¬ M ad.block i) (h2 : ∀ x ∈ xs, x.e.data ≠ [] → ∀ ad, x.a = some ad → ∀ i, ¬ M ad.block i) : FEsAt w' a xs :=
  ⟨h.1.chg FV.len hc h1, fun x hx => (h.2 x hx).ok_chg hc (h2 x hx)⟩
theorem Items.keep {w w' : World} {g bi bk N0 ni n : Nat} {es : List FE} {S : Bs → Option Value} {K : KV} {c : Ck.Chk.Cut} {blv blv' : Value} {bl bl' : List BV} (h : Items w g bi bk N0 es ni S) (hS : BS w g bi bk N0 n K c blv bl) (ht : Bt g bk blv bl blv' bl' w w') : Items w' g bi bk N0 es ni S := by
  have hl := hS.lt
  have hne := hS.ne
  have key : ∀ q, q < N0 → q ≠ g → q ≠ bk → ∀ i : Nat, ¬ (q = g ∨ q = bk ∨ blv.ownBlock = some q ∨ w.heap.size ≤ q) := fun q h1 h2 h3 i e => by
    rcases e with e | e | e | e
    · exact h2 e
    · exact h3 e
    · have := (hS.blobs.own.lt q e).1
      omega
    · omega
  refine ⟨h.map.keep (ht.chg.other bi (by omega) (key bi hl.2.1 (fun e => hne.1 e.symm) hne.2.2)), fun p v hv => ?_, h.no⟩
  obtain ⟨a, cap, xs, h1, h2, h3, h4, h5, h6⟩ := h.row p v hv
  exact ⟨a, cap, xs, h1, h2, h3, h4.chg ht.chg (fun ad e hx => key _ (h5 ad e hx).1 (h5 ad e hx).2.1 (h5 ad e hx).2.2) (fun x hx hd ad e => key _ (h6 x hx hd ad e).1 (h6 x hx hd ad e).2.1 (h6 x hx hd ad e).2.2), h5, h6⟩
theorem Items.later {w w' : World} {g bi bk N0 ni : Nat} {es : List FE} {S : Bs → Option Value} (h : Items w g bi bk N0 es ni S) (hb : Below w.heap.size w w') : Items w' g bi bk N0 es ni S :=
  ⟨h.map.later hb, fun p v hv => by
    obtain ⟨a, cap, xs, h1, h2, h3, h4, h5, h6⟩ := h.row p v hv
    exact ⟨a, cap, xs, h1, h2, h3, h4.later hb, h5, h6⟩, h.no⟩
theorem Items.at {w : World} {g bi bk N0 ni : Nat} {es : List FE} {S : Bs → Option Value} (h : Items w g bi bk N0 es ni S) (p : Bs) : ∃ a cap xs, (S p).getD (.slice none 0 0) = .slice a xs.length cap ∧ xs.length ≤ cap ∧ xs.map FV.e = kidsF es p ∧ FEsAt w a xs ∧ (∀ ad, a = some ad → xs ≠ [] → ad.block < N0 ∧ ad.block ≠ g ∧ ad.block ≠ bk) ∧ (∀ x ∈ xs, x.e.data ≠ [] → ∀ ad, x.a = some ad → ad.block < N0 ∧ ad.block ≠ g ∧ ad.block ≠ bk) := by
  cases hs : S p with
  | none => exact ⟨none, 0, [], rfl, Nat.le_refl _, (h.no p hs).symm, ⟨.inl rfl, by simp⟩, (fun ad e => by cases e), by simp⟩
  | some v =>
    obtain ⟨a, cap, xs, h1, h2⟩ := h.row p v hs
    exact ⟨a, cap, xs, h1, h2⟩
end Go.Proofs.YtmcbnhkcjhlbaaaGreatDoor.Tp
end
section
namespace Go.Proofs.YtmcbnhkcjhlbaaaGreatDoor.Tp
open Go.RowKit
open Kit (Chg)
open Go.Maps
open Go.WideMaps
open Go.Proofs.YtmcbnhkcjhlbaaaGreatDoor.One

theorem joinA {P : Program} {id : Nat} {ops : Array Oper} {Q : Exit → Act → World → Prop} {a : Act} {w : World} (act : Nat → Act) (F : Nat → World → Prop)
    (main : (∀ A V, F A V → Q .normal (act A) V) → (Code.region id ops true).wp P Q a w)
    (rest : ∀ A V, F A V → Q .normal (act A) V) : (Code.region id ops true).wp P Q a w := main rest
theorem rows_keep {w w' : World} {g bi bk N0 n : Nat} {K : KV} {c : Ck.Chk.Cut} {blv blv' : Value} {bl bl' : List BV} {a : Option Addr} {xs : List FV} (hS : BS w g bi bk N0 n K c blv bl) (ht : Bt g bk blv bl blv' bl' w w') (h4 : FEsAt w a xs) (h5 : ∀ ad, a = some ad → xs ≠ [] → ad.block < N0 ∧ ad.block ≠ g ∧ ad.block ≠ bk) (h6 : ∀ x ∈ xs, x.e.data ≠ [] → ∀ ad, x.a = some ad → ad.block < N0 ∧ ad.block ≠ g ∧ ad.block ≠ bk) : FEsAt w' a xs := by
  have hl := hS.lt
  have key : ∀ q, q < N0 → q ≠ g → q ≠ bk → ∀ i : Nat, ¬ (q = g ∨ q = bk ∨ blv.ownBlock = some q ∨ w.heap.size ≤ q) := fun q h1 h2 h3 i e => by
    rcases e with e | e | e | e
    · exact h2 e
    · exact h3 e
    · have := (hS.blobs.own.lt q e).1
      omega
    · omega
  exact h4.chg ht.chg (fun ad e hx => key _ (h5 ad e hx).1 (h5 ad e hx).2.1 (h5 ad e hx).2.2) (fun x hx hd ad e => key _ (h6 x hx hd ad e).1 (h6 x hx hd ad e).2.1 (h6 x hx hd ad e).2.2)
def DirP (g bi bk N0 n : Nat) (K : KV) (c : Ck.Chk.Cut) (blv : Value) (bl : List BV) (cs : List (List Nat)) (r : RefP) (w : World) (e : Ending) (w' : World) : Prop := ∃ (blv' : Value) (bl' : List BV), e = .returned (.tuple #[.agg r.row, .int .i64 0]) ∧ AddsP K cs bl bl' ∧ BS w' g bi bk N0 (n + cs.length) K c blv' bl' ∧ Bt g bk blv bl blv' bl' w w'
theorem new_row3z {w : World} {T : TypeId} : (w.alloc (.cells refZ.row T)).heap[w.heap.size]? = some (.cells refZ.row T (0, 0)) := heap_alloc_new _ _
theorem row10_f {w : World} {A : Nat} {nm : ByteArray} {kind mode time : Int} {sz : Nat} {link : ByteArray} {T : TypeId} (h : w.heap[A]? = some (.cells (IV.row ⟨⟨nm, kind, mode, time, sz, link, [], refZ⟩, none, 0⟩) T (0, 0))) (ck : List RefP) (n : Nat) (hn : ck.length = n) (a : Option Addr) (cc : Nat) : (w.setCell ⟨A, 6, none⟩ (.slice a n cc)).heap[A]? = some (.cells (IV.row ⟨⟨nm, kind, mode, time, sz, link, ck, refZ⟩, a, cc⟩) T (0, 0)) := by
  subst hn
  exact heap_setCell_same w A 6 _ _ _ h
theorem row10_d {w : World} {A : Nat} {nm : ByteArray} {kind mode time : Int} {sz : Nat} {link : ByteArray} {T : TypeId} (h : w.heap[A]? = some (.cells (IV.row ⟨⟨nm, kind, mode, time, sz, link, [], refZ⟩, none, 0⟩) T (0, 0))) (rn : ByteArray) (rs : Nat) : (((w.setCell ⟨A, 7, none⟩ (.string rn)).setCell ⟨A, 8, none⟩ (.int .i64 0)).setCell ⟨A, 9, none⟩ (.int .i64 (rs : Int))).heap[A]? = some (.cells (IV.row ⟨⟨nm, kind, mode, time, sz, link, [], ⟨rn, rs⟩⟩, none, 0⟩) T (0, 0)) :=
  heap_setCell_same _ A 9 _ _ _ (heap_setCell_same _ A 8 _ _ _ (heap_setCell_same w A 7 _ _ _ h))
theorem chg3_d (w : World) (A : Nat) (a b c : Value) : Chg (fun q _ => q = A) w (((w.setCell ⟨A, 7, none⟩ a).setCell ⟨A, 8, none⟩ b).setCell ⟨A, 9, none⟩ c) :=
  ((Chg.setCell1 (M := fun q _ => q = A) w A 7 a rfl).trans (Chg.setCell1 (M := fun q _ => q = A) _ A 8 b rfl)).trans (Chg.setCell1 (M := fun q _ => q = A) _ A 9 c rfl)
set_option maxRecDepth 100000 in
set_option maxHeartbeats 4000000 in
theorem dir_any (g bi bk N0 ni : Nat) (K : KV) (hK : K.ok) (c : Ck.Chk.Cut) (hc : c.Ok) (es : List FE) (hE : SmallT es) (S : Bs → Option Value) (hlo : 7 ≤ g ∧ 7 ≤ bk) : ∀ (f m : Nat) (p : Bs), m < f → Late es m p → ∀ (s : ByteArray), s.data.toList = p → s.size ≤ 512 → ∀ (n : Nat) (blv : Value) (bl : List BV) (w : World), bl.length + (dirC K c es f p).length ≤ 99000 → n + (dirC K c es f p).length ≤ 99000 → BS w g bi bk N0 n K c blv bl → Items w g bi bk N0 es ni S → Top w → Calls Tryz.prog 32 #[.pointer (some ⟨g, 0, none⟩), .string s] w (DirP g bi bk N0 n K c blv bl (dirC K c es f p) (refOf K (nodeF K c es f p)) w) := by
  have HK := Lib.hid hK
  have HC := Lib.hid hc
  have HEE := Lib.hid hE
  have HLO := Lib.hid hlo
  clear hK hc hE hlo
  intro f
  induction f with
  | zero => intro m p h; exact absurd h (Nat.not_lt_zero _)
  | succ f ih =>
  intro m p hmf hlate s hs hsz n blv bl w hbl hn hS hI hT
  have HIH := Lib.hid ih
  have HMF := Lib.hid hmf
  have HLATE := Lib.hid hlate
  have HSL := Lib.hid hs
  have HSZ := Lib.hid hsz
  have HDC : Hid ((dirC K c es (f + 1) p).length = ((kidsF es p).flatMap (entC c (dirC K c es f))).length + 1) := Lib.hid (by simp [dirC])
  have HBL : Hid (bl.length + (dirC K c es (f + 1) p).length ≤ 99000 ∧ n + (dirC K c es (f + 1) p).length ≤ 99000) := Lib.hid ⟨hbl, hn⟩
  have HST := Lib.hid hS
  have HIT := Lib.hid hI
  have HTP := Lib.hid hT
  obtain ⟨ia, ic, xs, hv, hic, hxe, hxs, hxa, hxd⟩ := hI.at p
  have HLK : Hid (∀ V, Below w.heap.size w V → (Instr.lookup 90 (.map (some bi)) (.string s) false).run Tryz.prog V = .ok (.slice ia xs.length ic) V) := Lib.hid (fun V h => by
    have h1 := (hI.map.later h).look1 (t := 90) (e := 22) Tryz.underlying90 (z := .slice none 0 0) (by kernel_rfl) s (by unfold maxLen; omega)
    rw [hs, hv] at h1
    exact h1)
  obtain ⟨nx, hnx⟩ := ex_eq xs.length
  rw [hnx] at HLK hic
  have HNX := Lib.hid hnx
  have HIC := Lib.hid hic
  have HXE := Lib.hid hxe
  have HXS := Lib.hid hxs
  have HXA := Lib.hid hxa
  have HXD := Lib.hid hxd
  have HKL : Hid ((kidsF es p).length = nx ∧ nx ≤ 8) := Lib.hid (by
    have h1 : (kidsF es p).length = nx := by rw [← hxe, List.length_map]; exact hnx
    have h2 : (kidsF es p).length ≤ es.length := List.length_filter_le _ _
    have := HEE.out.few
    omega)
  clear ih hmf hlate hs hsz hbl hn hS hI hT hv hnx hxe hxs hxa hxd hic
  go_enter Tryz.func32, Tryz.ntmps32
  go_upto_region 1 with fail
  refine wp_over (fun V => Hid (V.heap[w.heap.size]? = some (.cells (RefP.row refZ) 45 (0, 0))) ∧ Hid (Below w.heap.size w V) ∧ Hid (V.heap.size = w.heap.size + 1)) ⟨Lib.hid new_row3z, Lib.hid ((Below.refl _ _).alloc (Nat.le_refl _) _), Lib.hid (by simp)⟩ ?_
  rintro W ⟨HRZ, HWB, HWS⟩
  obtain ⟨R, hR⟩ := ex_eq w.heap.size
  rw [hR] at HRZ HWS ⊢
  have HR := Lib.hid hR
  clear hR
  have HSW := Lib.hid (HST.out.later HWB.out)
  have HIW := Lib.hid (HIT.out.later HWB.out)
  have HTW := Lib.hid (HTP.out.later HWB.out)
  have HXW := Lib.hid (HXS.out.later HWB.out)
  have HGN : Hid (g < N0 ∧ bi < N0 ∧ bk < N0 ∧ N0 ≤ R ∧ R < W.heap.size) := Lib.hid (by have := HST.out.lt; have := HR.out; have := HWS.out; omega)
  have HRF : Hid (Free R blv bl) := Lib.hid (HST.out.fresh (by have := HR.out; omega))
  have hlook := HLK.out W HWB.out
  have g11 := (row14B HSW.out.row).2.2.2.2.2.2.2.2.2.2.2.1
  go_upto_region 3 with fail
  clear hlook g11
  go_loopw [6, 20] (fun v z wr => ∃ (k : Nat) (blv1 : Value) (bl1 : List BV) (L : List IV), k ≤ nx ∧ z = .int .i64 (k : Int) ∧ Hid (L.map IV.t = ((kidsF es p).take k).map (fun e => itOf K c (refOf K (nodeF K c es f e.p)) e)) ∧ Hid (AddsP K (((kidsF es p).take k).flatMap (entC c (dirC K c es f))) bl bl1) ∧ Hid (BS wr g bi bk N0 (n + (((kidsF es p).take k).flatMap (entC c (dirC K c es f))).length) K c blv1 bl1) ∧ Hid (Bt g bk blv bl blv1 bl1 W wr) ∧ Hid (IRow wr W.heap.size v L) ∧ Hid (IFree v L blv1 bl1)) (fun _ z _ => nx - (intOf z).toNat)
  case atStart =>
    refine ⟨0, blv, bl, [], Nat.zero_le _, rfl, Lib.hid (by simp), Lib.hid ?_, Lib.hid ?_, Lib.hid (Bt.refl _ _ _ _ _), Lib.hid (IRow.nil _ _), Lib.hid (IFree.nil _ _)⟩
    · rw [List.take_zero]; exact AddsP.nil _ _
    · rw [List.take_zero]; exact HSW.out
  case round =>
    obtain ⟨k, blv1, bl1, L, hk, rfl, HLI, HAD, HBS, HBT, HRW, HFR⟩ := hrel
    have HCL : Hid ((((kidsF es p).take k).flatMap (entC c (dirC K c es f))).length ≤ ((kidsF es p).flatMap (entC c (dirC K c es f))).length) := Lib.hid (by
      have h1 : (kidsF es p).flatMap (entC c (dirC K c es f)) = (((kidsF es p).take k).flatMap (entC c (dirC K c es f))) ++ ((kidsF es p).drop k).flatMap (entC c (dirC K c es f)) := by rw [← List.flatMap_append, List.take_append_drop]
      rw [h1, List.length_append]
      omega)
    have HLL : Hid (L.length = k) := Lib.hid (by
      have h1 := congrArg List.length HLI.out
      rw [List.length_map, List.length_map, List.length_take] at h1
      have := HKL.out
      omega)
    have HTR : Hid (Top wr) := Lib.hid (HTW.out.low (HBT.out.below HSW.out HLO.out.1 HLO.out.2) (Nat.le_refl _))
    by_cases hlt : k < nx
    rotate_left
    · have HKT : Hid ((kidsF es p).take k = kidsF es p) := Lib.hid (List.take_of_length_le (by have := HKL.out; omega))
      rw [HKT.out] at HLI HAD HBS
      obtain ⟨la, lc, hv6, _, hlc, _, hlr, hln, hlb⟩ := rows_of_own IV.len (by decide) HRW.out.own
      have HV6 := Lib.hid hv6
      have HLB := Lib.hid hlb
      have HND : Hid (encN (L.map IV.t) = nodeF K c es (f + 1) p) := Lib.hid (by rw [HLI.out]; rfl)
      have HNO := Lib.hid (node_ok la L.length lc L rfl hlc (by have := HLL.out; have := HKL.out; omega) wr ⟨hlr, HRW.out.ok⟩ (fun x hx => by
        have h1 : x.t ∈ L.map IV.t := List.mem_map_of_mem hx
        rw [HLI.out] at h1
        obtain ⟨e, he, h2⟩ := List.mem_map.1 h1
        rw [← h2]
        exact kid_small HEE.out he f e.p) (by
        rw [HLI.out]
        exact kids_ord HEE.out.ok K c (fun e => refOf K (nodeF K c es f e.p)) p) HTR.out)
      rw [HND.out, HLL.out] at HNO
      obtain ⟨X, hX⟩ := ex_eq (nodeF K c es (f + 1) p)
      rw [hX] at HNO
      have HXD2 := Lib.hid hX
      subst hv6
      clear hlc hlr hln hlb hX
      rw [HLL.out]
      go_upto_region 18 with (first
        | (go_at_call 74
           (with_reducible refine HNO.out.mono ?_)
           rintro e w3 ⟨na, nl, nc, rfl, hnl, hn2, hnc, hby, hnn, hna, hb3⟩
           have HNL := Lib.hid hnl
           have HN2 := Lib.hid hn2
           have HNC := Lib.hid hnc
           have HBY := Lib.hid hby
           have HNN := Lib.hid hnn
           have HNA := Lib.hid hna
           have HB3 := Lib.hid hb3
           clear hnl hn2 hnc hby hnn hna hb3))
      have HS3 := Lib.hid (HBS.out.later HB3.out)
      have HT3 := Lib.hid (HTR.out.later HB3.out)
      have HR3 : Hid (w3.heap[R]? = some (.cells (RefP.row refZ) 45 (0, 0))) := Lib.hid ((HB3.out.block R (by have := HBT.out.size; have := HGN.out; omega)).trans ((HBT.out.chg.other R HGN.out.2.2.2.2 (HBT.out.keeps HGN.out.2.2.2.2 (by have := HGN.out; omega) (by have := HGN.out; omega) HRF.out)).trans HRZ.out))
      have HAL : Hid (bl1.length ≤ 100000 ∧ n + ((kidsF es p).flatMap (entC c (dirC K c es f))).length ≤ 100000) := Lib.hid (by
        have h1 := HAD.out.len
        have := HBL.out
        have := HDC.out
        omega)
      have HADD := Lib.hid (add_any g bi bk N0 (n + ((kidsF es p).flatMap (entC c (dirC K c es f))).length) K HK.out c blv1 bl1 na nc nl X HNL.out HNC.out HNN.out (by have := HN2.out; omega) HAL.out.1 HAL.out.2 w3 HBY.out (fun ad e e2 => by have := HNA.out ad e; have := HGN.out; have := HBT.out.size; omega) HS3.out HT3.out)
      obtain ⟨r, hr⟩ := ex_eq (refOf K X)
      rw [hr] at HADD
      have HRE := Lib.hid hr
      obtain ⟨rn, rs⟩ := r
      unfold RefP.row at HADD
      dsimp only at HADD
      clear hr
      go_upto_region 20 with fail
      go_wp2_with (first
        | (go_at_call 75
           (with_reducible refine HADD.out.mono ?_)
           rintro e w4 ⟨blv2, bl2, rfl, h1, h2, h3⟩
           have HA4 := Lib.hid h1
           have HS4 := Lib.hid h2
           have HT4 := Lib.hid h3
           have HR4 : Hid (w4.heap[R]? = some (.cells (RefP.row refZ) 45 (0, 0))) := Lib.hid ((HT4.out.chg.other R (by have := HB3.out.size; have := HBT.out.size; have := HGN.out; omega) (HT4.out.keeps (by have := HB3.out.size; have := HBT.out.size; have := HGN.out; omega) (by have := HGN.out; omega) (by have := HGN.out; omega) (HBT.out.free HRF.out HGN.out.2.2.2.2))).trans HR3.out)
           obtain ⟨z0, z1, z2⟩ := row3R HR4.out
           dsimp only [refZ] at z0 z1 z2
           have rf0 : w4.frozen? ⟨R, 0, none⟩ = false := frozen_of_row _ _ _ _ _ HR4.out
           have rf1 : w4.frozen? ⟨R, 1, none⟩ = false := frozen_of_row _ _ _ _ _ HR4.out
           have rf2 : w4.frozen? ⟨R, 2, none⟩ = false := frozen_of_row _ _ _ _ _ HR4.out
           clear h1 h2 h3))
      refine bodyPost_ret (results_cell_row_tmp (p := 4) (u := 5) rfl _ _ R 45 #[.string rn, .int .i64 0, .int .i64 (rs : Int)] (0, 0) _ (by rfl) (putL_full (cur := [.string refZ.name, .int .i64 0, .int .i64 (refZ.size : Int)]) (vs := [.string rn, .int .i64 0, .int .i64 (rs : Int)]) HR4.out rfl) Tryz.underlying45 rfl (by kernel_rfl)) rfl ?_
      obtain ⟨Z, hZ⟩ := ex_eq (putL R 0 [.string rn, .int .i64 0, .int .i64 (rs : Int)] w4)
      have hcZ : Chg (fun q _ => q = R) w4 Z := by rw [← hZ]; exact putL_chg (fun i => rfl) _ _ _ (Chg.refl _ _)
      have hfr4 : Free R blv2 bl2 := HT4.out.free (HBT.out.free HRF.out HGN.out.2.2.2.2) (by have := HB3.out.size; have := HBT.out.size; have := HGN.out; omega)
      have hbt4 : Bt g bk blv bl blv2 bl2 w w4 := (((Bt.of_below HWB.out).trans HBT.out).trans (Bt.of_below HB3.out)).trans HT4.out
      subst hZ
      refine ⟨blv2, bl2, ?_, ?_, ?_, hbt4.more hcZ (fun q i _ e => by have e2 : q = R := e; have := HR.out; omega)⟩
      · rw [HXD2.out, HRE.out]; rfl
      · have h1 := HAD.out.snoc HA4.out
        have h2 : dirC K c es (f + 1) p = (kidsF es p).flatMap (entC c (dirC K c es f)) ++ [nodeF K c es (f + 1) p] := rfl
        rw [h2, HXD2.out]
        exact h1
      · have h1 := HS4.out.turn hcZ (fun q e => by
          have e2 : q = R := e
          subst e2
          exact ⟨HGN.out.2.2.2.1, hfr4⟩)
        rw [HDC.out]
        exact h1
    have hkx : k < xs.length := by rw [HNX.out]; exact hlt
    have hkk : k < (kidsF es p).length := by have := HKL.out; omega
    have HXR := Lib.hid (rows_keep HSW.out HBT.out HXW.out HXA.out HXD.out)
    obtain ⟨b, o, hia, s0, s1, s2, s3, s4, s5⟩ := HXR.out.six k hkx
    obtain ⟨x, hx⟩ : ∃ x, xs[k] = x := ⟨_, rfl⟩
    rw [hx] at s0 s1 s2 s3 s4 s5
    have HXO : Hid (x.ok wr) := Lib.hid (by rw [← hx]; exact HXR.out.2 _ (List.getElem_mem hkx))
    have HKE : Hid ((kidsF es p)[k] = x.e) := Lib.hid (by
      have h1 : (xs.map FV.e)[k]'(by rw [List.length_map]; exact hkx) = x.e := by rw [List.getElem_map, hx]
      rw [← h1]
      congr 1
      exact HXE.out.symm)
    have HKM : Hid (x.e ∈ kidsF es p) := Lib.hid (by rw [← HKE.out]; exact List.getElem_mem hkk)
    have HEM : Hid (x.e ∈ es ∧ parP x.e.p = p) := Lib.hid (mem_kids.1 HKM.out)
    have HEO : Hid x.e.ok := Lib.hid (HEE.out.ok.ok _ HEM.out.1)
    have HED : Hid (x.e.data.length ≤ 60) := Lib.hid (HEE.out.data _ HEM.out.1)
    have HTK : Hid ((kidsF es p).take (k + 1) = (kidsF es p).take k ++ [x.e]) := Lib.hid (by rw [List.take_succ_eq_append_getElem hkk, HKE.out])
    have HSUB : Hid ((((kidsF es p).take k).flatMap (entC c (dirC K c es f))).length + (entC c (dirC K c es f) x.e).length ≤ ((kidsF es p).flatMap (entC c (dirC K c es f))).length) := Lib.hid (by
      have h1 : (kidsF es p).flatMap (entC c (dirC K c es f)) = ((kidsF es p).take (k + 1)).flatMap (entC c (dirC K c es f)) ++ ((kidsF es p).drop (k + 1)).flatMap (entC c (dirC K c es f)) := by rw [← List.flatMap_append, List.take_append_drop]
      rw [h1, HTK.out, List.flatMap_append, List.length_append, List.length_append, List.flatMap_singleton]
      omega)
    have HXDK : Hid (x.e.data ≠ [] → ∀ ad, x.a = some ad → ad.block < N0 ∧ ad.block ≠ g ∧ ad.block ≠ bk) := Lib.hid (by rw [← hx]; exact HXD.out _ (List.getElem_mem hkx))
    subst hia
    clear hx hkx HKE hkk
    obtain ⟨⟨path, kind, mode, time, data, link⟩, da, dc⟩ := x
    dsimp only at s0 s1 s2 s3 s4 s5
    obtain ⟨nm, hnm⟩ := ex_eq (lastB path.data.toList)
    have HNM := Lib.hid hnm
    have HNAME : Hid (∀ V, Calls Tryz.prog 72 #[.string s, .string path] V fun e w' => e = .returned (.string nm) ∧ w' = V) := Lib.hid (fun V => by
      rw [← HNM.out]
      exact name_ok s path HEO.out.vp (by rw [HSL.out]; exact HEM.out.2.symm) V)
    clear hnm
    go_upto_region 5 with fail
    clear s0 s1 s2 s3 s4 s5
    refine wp_over (fun V => Hid (V.heap[wr.heap.size]? = some (.cells (FV.row (⟨⟨path, kind, mode, time, data, link⟩, da, dc⟩ : FV)) 54 (0, 0))) ∧ Hid (Below wr.heap.size wr V) ∧ Hid (V.heap.size = wr.heap.size + 1)) ⟨Lib.hid (heap_alloc_new _ _), Lib.hid ((Below.refl _ _).alloc (Nat.le_refl _) _), Lib.hid (by simp)⟩ ?_
    rintro V ⟨HGE, HVB, HVS⟩
    obtain ⟨N, hN⟩ := ex_eq wr.heap.size
    rw [hN] at HGE HVS ⊢
    have HN := Lib.hid hN
    clear hN
    have HC6 : Hid (∀ X, Below (N + 1) V X → X.cell? ⟨N, 0, none⟩ = some (.string path) ∧ X.cell? ⟨N, 1, none⟩ = some (.int .i64 kind) ∧ X.cell? ⟨N, 2, none⟩ = some (.int .i64 mode) ∧ X.cell? ⟨N, 3, none⟩ = some (.int .i64 time) ∧ X.cell? ⟨N, 4, none⟩ = some (.slice da data.length dc) ∧ X.cell? ⟨N, 5, none⟩ = some (.string link)) := Lib.hid (fun X h => row6 ((h.block N (by omega)).trans HGE.out))
    have HDR : Hid (Below (N + 1) V V.drew) := Lib.hid (Below.refl _ _).drew
    apply joinA (F := (fun A X => Hid (X.heap[A]? = some (.cells (IV.row (⟨⟨nm, kind, mode, time, 0, link, [], refZ⟩, none, 0⟩ : IV)) 149 (0, 0))) ∧ Hid (Below (N + 1) V X) ∧ Hid (N + 1 ≤ A)))
    case main =>
      intro HJ
      refine Kit.wp_region_tplan (fun V => V.cell? ⟨N, 0, none⟩ = some (.string path) ∧ V.cell? ⟨N, 1, none⟩ = some (.int .i64 kind) ∧ V.cell? ⟨N, 2, none⟩ = some (.int .i64 mode) ∧ V.cell? ⟨N, 3, none⟩ = some (.int .i64 time) ∧ V.cell? ⟨N, 4, none⟩ = some (.slice da data.length dc) ∧ V.cell? ⟨N, 5, none⟩ = some (.string link)) (.heads [0, 1, 2, 4, 5, 6, 7, 8, 9, 10, 11] (.op2 3 (.head 12 (.op1 13 (.op1 14 .done))) 13 (.op1 3 (.head 12 (.op1 14 .done))))) (by kernel_rfl) (by kernel_rfl) (by kernel_rfl) (by kernel_rfl) (HC6.out _ HDR.out) ?_
      iterate 11 (refine Kit.tplan_head (by rfl) (by first | exact .inr ⟨by rfl, rfl⟩ | exact .inl ⟨by rfl, fun w' hS => by (dsimp only at hS); go_simp; (try with_reducible rfl)⟩) ?_; (try simp only [Act.put, List.setIfInBounds_toArray, List.set_cons_zero, List.set_cons_succ]))
      obtain ⟨VD, hVD⟩ := ex_eq V.drew
      rw [hVD] at HDR ⊢
      clear hVD
      refine Kit.tplan_op2 ?_ ?_
      rotate_left
      focus (
        refine Kit.tplan_op1 (by rfl) (by rfl) fun K' hK' => ?_
        go_simp
        have HAG : Hid ((VD.alloc (.cells #[.string ⟨#[]⟩, .int .i64 0, .int .i64 0, .int .i64 0, .int .i64 0, .string ⟨#[]⟩, .slice none 0 0, .string ⟨#[]⟩, .int .i64 0, .int .i64 0] 149)).heap[VD.heap.size]? = some (.cells #[.string ⟨#[]⟩, .int .i64 0, .int .i64 0, .int .i64 0, .int .i64 0, .string ⟨#[]⟩, .slice none 0 0, .string ⟨#[]⟩, .int .i64 0, .int .i64 0] 149 (0, 0))) := Lib.hid (heap_alloc_new _ _)
        have HA1 : Hid (Below (N + 1) V (VD.alloc (.cells #[.string ⟨#[]⟩, .int .i64 0, .int .i64 0, .int .i64 0, .int .i64 0, .string ⟨#[]⟩, .slice none 0 0, .string ⟨#[]⟩, .int .i64 0, .int .i64 0] 149))) := Lib.hid (HDR.out.alloc (by have := HDR.out.size; have := HVS.out; omega) _)
        have HA2 : Hid (N + 1 ≤ VD.heap.size) := Lib.hid (by have := HDR.out.size; have := HVS.out; omega)
        obtain ⟨VA, hVO⟩ := ex_eq (VD.alloc (.cells #[.string ⟨#[]⟩, .int .i64 0, .int .i64 0, .int .i64 0, .int .i64 0, .string ⟨#[]⟩, .slice none 0 0, .string ⟨#[]⟩, .int .i64 0, .int .i64 0] 149))
        rw [hVO] at HAG HA1 ⊢
        clear hVO
        obtain ⟨A, hA⟩ := ex_eq VD.heap.size
        rw [hA] at HAG HA2 ⊢
        clear hA
        refine hK' _ _ (HC6.out _ HA1.out) ?_
        clear hK' K'
        refine Kit.tplan_op1 (by rfl) (by rfl) fun K' hK' => ?_
        go_simp
        go_at_call 72
        refine (HNAME.out _).mono ?_
        rintro e V9 ⟨rfl, hv9⟩
        replace hv9 := hv9.symm
        subst hv9
        refine hK' _ _ (HC6.out _ HA1.out) ?_
        clear hK' K'
        iterate 1 (refine Kit.tplan_head (by rfl) (by first | exact .inr ⟨by rfl, rfl⟩ | exact .inl ⟨by rfl, fun w' hS => by (dsimp only at hS); go_simp; (try with_reducible rfl)⟩) ?_; (try simp only [Act.put, List.setIfInBounds_toArray, List.set_cons_zero, List.set_cons_succ]))
        obtain ⟨z0, z1, z2, z3, z4, z5, z6, z7, z8, z9⟩ := row10 (x := (⟨⟨⟨#[]⟩, 0, 0, 0, 0, ⟨#[]⟩, [], ⟨⟨#[]⟩, 0⟩⟩, none, 0⟩ : IV)) HAG.out
        dsimp only at z0 z1 z2 z3 z4 z5 z6 z7 z8 z9
        have zf : ∀ i, VA.frozen? ⟨A, i, none⟩ = false := fun i => frozen_of_row _ _ _ _ _ HAG.out
        refine Kit.tplan_op1 (by rfl) (by rfl) fun K' hK' => ?_
        go_simp
        have HPB : Hid (Below (N + 1) V (putL A 0 [.string nm, .int .i64 kind, .int .i64 mode, .int .i64 time, .int .i64 0, .string link, .slice none 0 0, .string ⟨#[]⟩, .int .i64 0, .int .i64 0] VA)) := Lib.hid (putL_below HA2.out [.string nm, .int .i64 kind, .int .i64 mode, .int .i64 time, .int .i64 0, .string link, .slice none 0 0, .string ⟨#[]⟩, .int .i64 0, .int .i64 0] 0 _ HA1.out)
        refine hK' _ _ (HC6.out _ HPB.out) ?_
        clear hK' K'
        refine Kit.tplan_done ?_
        (try simp only [Act.put, List.setIfInBounds_toArray, List.set_cons_zero, List.set_cons_succ])
        exact HJ A (putL A 0 [.string nm, .int .i64 kind, .int .i64 mode, .int .i64 time, .int .i64 0, .string link, .slice none 0 0, .string ⟨#[]⟩, .int .i64 0, .int .i64 0] VA) ⟨Lib.hid (putL_full (cur := [.string ⟨#[]⟩, .int .i64 0, .int .i64 0, .int .i64 0, .int .i64 0, .string ⟨#[]⟩, .slice none 0 0, .string ⟨#[]⟩, .int .i64 0, .int .i64 0]) (vs := [.string nm, .int .i64 kind, .int .i64 mode, .int .i64 time, .int .i64 0, .string link, .slice none 0 0, .string ⟨#[]⟩, .int .i64 0, .int .i64 0]) HAG.out rfl), HPB, HA2⟩)
      refine Kit.tplan_op1 (by rfl) (by rfl) fun K' hK' => ?_
      go_simp
      go_at_call 72
      refine (HNAME.out _).mono ?_
      rintro e V9 ⟨rfl, hv9⟩
      replace hv9 := hv9.symm
      subst hv9
      refine hK' _ _ (HC6.out _ HDR.out) ?_
      clear hK' K'
      iterate 1 (refine Kit.tplan_head (by rfl) (by first | exact .inr ⟨by rfl, rfl⟩ | exact .inl ⟨by rfl, fun w' hS => by (dsimp only at hS); go_simp; (try with_reducible rfl)⟩) ?_; (try simp only [Act.put, List.setIfInBounds_toArray, List.set_cons_zero, List.set_cons_succ]))
      refine Kit.tplan_op1 (by rfl) (by rfl) fun K' hK' => ?_
      go_simp
      have HAG : Hid ((VD.alloc (.cells #[.string ⟨#[]⟩, .int .i64 0, .int .i64 0, .int .i64 0, .int .i64 0, .string ⟨#[]⟩, .slice none 0 0, .string ⟨#[]⟩, .int .i64 0, .int .i64 0] 149)).heap[VD.heap.size]? = some (.cells #[.string ⟨#[]⟩, .int .i64 0, .int .i64 0, .int .i64 0, .int .i64 0, .string ⟨#[]⟩, .slice none 0 0, .string ⟨#[]⟩, .int .i64 0, .int .i64 0] 149 (0, 0))) := Lib.hid (heap_alloc_new _ _)
      have HA1 : Hid (Below (N + 1) V (VD.alloc (.cells #[.string ⟨#[]⟩, .int .i64 0, .int .i64 0, .int .i64 0, .int .i64 0, .string ⟨#[]⟩, .slice none 0 0, .string ⟨#[]⟩, .int .i64 0, .int .i64 0] 149))) := Lib.hid (HDR.out.alloc (by have := HDR.out.size; have := HVS.out; omega) _)
      have HA2 : Hid (N + 1 ≤ VD.heap.size) := Lib.hid (by have := HDR.out.size; have := HVS.out; omega)
      obtain ⟨VA, hVO⟩ := ex_eq (VD.alloc (.cells #[.string ⟨#[]⟩, .int .i64 0, .int .i64 0, .int .i64 0, .int .i64 0, .string ⟨#[]⟩, .slice none 0 0, .string ⟨#[]⟩, .int .i64 0, .int .i64 0] 149))
      rw [hVO] at HAG HA1 ⊢
      clear hVO
      obtain ⟨A, hA⟩ := ex_eq VD.heap.size
      rw [hA] at HAG HA2 ⊢
      clear hA
      refine hK' _ _ (HC6.out _ HA1.out) ?_
      clear hK' K'
      obtain ⟨z0, z1, z2, z3, z4, z5, z6, z7, z8, z9⟩ := row10 (x := (⟨⟨⟨#[]⟩, 0, 0, 0, 0, ⟨#[]⟩, [], ⟨⟨#[]⟩, 0⟩⟩, none, 0⟩ : IV)) HAG.out
      dsimp only at z0 z1 z2 z3 z4 z5 z6 z7 z8 z9
      have zf : ∀ i, VA.frozen? ⟨A, i, none⟩ = false := fun i => frozen_of_row _ _ _ _ _ HAG.out
      refine Kit.tplan_op1 (by rfl) (by rfl) fun K' hK' => ?_
      go_simp
      have HPB : Hid (Below (N + 1) V (putL A 0 [.string nm, .int .i64 kind, .int .i64 mode, .int .i64 time, .int .i64 0, .string link, .slice none 0 0, .string ⟨#[]⟩, .int .i64 0, .int .i64 0] VA)) := Lib.hid (putL_below HA2.out [.string nm, .int .i64 kind, .int .i64 mode, .int .i64 time, .int .i64 0, .string link, .slice none 0 0, .string ⟨#[]⟩, .int .i64 0, .int .i64 0] 0 _ HA1.out)
      refine hK' _ _ (HC6.out _ HPB.out) ?_
      clear hK' K'
      refine Kit.tplan_done ?_
      (try simp only [Act.put, List.setIfInBounds_toArray, List.set_cons_zero, List.set_cons_succ])
      exact HJ A (putL A 0 [.string nm, .int .i64 kind, .int .i64 mode, .int .i64 time, .int .i64 0, .string link, .slice none 0 0, .string ⟨#[]⟩, .int .i64 0, .int .i64 0] VA) ⟨Lib.hid (putL_full (cur := [.string ⟨#[]⟩, .int .i64 0, .int .i64 0, .int .i64 0, .int .i64 0, .string ⟨#[]⟩, .slice none 0 0, .string ⟨#[]⟩, .int .i64 0, .int .i64 0]) (vs := [.string nm, .int .i64 kind, .int .i64 mode, .int .i64 time, .int .i64 0, .string link, .slice none 0 0, .string ⟨#[]⟩, .int .i64 0, .int .i64 0]) HAG.out rfl), HPB, HA2⟩
    case rest =>
      rintro A X ⟨HIR, HXB, HA2⟩
      have HXW2 : Hid (Below N wr X) := Lib.hid (by have := HN.out; subst this; exact HVB.out.trans (HXB.out.mono (by omega)))
      have HXWR : Hid (Below wr.heap.size wr X) := Lib.hid (by rw [HN.out]; exact HXW2.out)
      have HSX := Lib.hid (HBS.out.later HXWR.out)
      have HTX := Lib.hid (HTR.out.later HXWR.out)
      have HAS : Hid (A < X.heap.size) := Lib.hid (Array.getElem?_eq_some_iff.1 HIR.out).1
      have HAF : Hid (Free A blv1 bl1 ∧ A ≠ g ∧ A ≠ bk ∧ W.heap.size ≤ A) := Lib.hid (by
        have h1 := HN.out
        have h2 := HA2.out
        have h3 := HBT.out.size
        have h4 := HGN.out
        exact ⟨HBS.out.fresh (by omega), by omega, by omega, by omega⟩)
      have HRWX := Lib.hid (HRW.out.later HXWR.out)
      have HVA : Hid (∀ q, u6.ownBlock = some q → q < A) := Lib.hid (fun q hq => by have := (HRW.out.own.lt q hq).2; have := HN.out; have := HA2.out; omega)
      have HLT2 : Hid (∀ x ∈ L, ∀ ad, x.a = some ad → ad.block < A) := Lib.hid (fun x hx ad e => by have := (HRW.out.off x hx ad e).2.1; have := HN.out; have := HA2.out; omega)
      obtain ⟨t0, t1, t2, t3, t4, t5⟩ := HC6.out X HXB.out
      go_upto_region 8 with fail
      rcases HEO.out.kinds with hkind | hkind | hkind
      focus (
        obtain rfl : kind = 1 := hkind
        obtain ⟨y0, y1, y2, y3, y4, y5, y6, y7, y8, y9⟩ := row10 HIR.out
        dsimp only at y0 y1 y2 y3 y4 y5 y6 y7 y8 y9
        have yf : ∀ i, X.frozen? ⟨A, i, none⟩ = false := fun i => frozen_of_row _ _ _ _ _ HIR.out
        obtain ⟨dl, hdl⟩ := ex_eq data.length
        have HDL := Lib.hid hdl
        rw [hdl] at t4
        clear hdl
        go_upto_region 10 with fail
        clear y0 y1 y2 y3 y4 y5 y6 y7 y8 y9 yf t0 t1 t2 t3 t4 t5
        refine wp_over (fun Y => Hid (Y.heap[A]? = some (.cells (IV.row (⟨⟨nm, 1, mode, time, dl, link, [], refZ⟩, none, 0⟩ : IV)) 149 (0, 0))) ∧ Hid (Chg (fun q _ => q = A) X Y)) ⟨Lib.hid (heap_setCell_same X A 4 _ _ _ HIR.out), Lib.hid (Chg.setCell1 _ _ _ _ rfl)⟩ ?_
        rintro Y ⟨HIY, HCY⟩
        have HYB : Hid (Below (N + 1) V Y) := Lib.hid (HXB.out.trans (HCY.out.below (by have := HXB.out.size; have := HVS.out; omega) (fun q i hq e => by have e2 : q = A := e; have := HA2.out; omega)))
        have HYW : Hid (Below wr.heap.size wr Y) := Lib.hid (by rw [HN.out]; have h1 := HVB.out; rw [HN.out] at h1; exact h1.trans (HYB.out.mono (by omega)))
        have HSY := Lib.hid (HBS.out.later HYW.out)
        have HTY := Lib.hid (HTR.out.later HYW.out)
        have HAY : Hid (A < Y.heap.size) := Lib.hid (Array.getElem?_eq_some_iff.1 HIY.out).1
        have HAL : Hid (bl1.length + dl ≤ 100000 ∧ n + (((kidsF es p).take k).flatMap (entC c (dirC K c es f))).length + dl ≤ 100000) := Lib.hid (by
          have h1 := HAD.out.len
          have h2 := HED.out
          rw [show (FV.e (⟨⟨path, 1, mode, time, data, link⟩, da, dc⟩ : FV)).data.length = dl from HDL.out] at h2
          have h3 := HCL.out
          have h4 := HBL.out
          have h5 := HDC.out
          exact ⟨by omega, by omega⟩)
        have HDA : Hid (BytesAt Y da data) := Lib.hid ((HXO.out.later HYW.out).dat)
        have HDC2 : Hid (dl ≤ dc) := Lib.hid (by have h := HXO.out.cap; rw [← HDL.out]; exact h)
        have HFI := Lib.hid (file_any g bi bk N0 (n + (((kidsF es p).take k).flatMap (entC c (dirC K c es f))).length) K HK.out c HC.out blv1 bl1 da dc dl data HDL.out HDC2.out (by have h2 := HED.out; have h3 : data.length = dl := HDL.out; have h4 : data.length ≤ 60 := h2; omega) HAL.out.1 HAL.out.2 Y HDA.out HSY.out HLO.out HTY.out)
        obtain ⟨t0, t1, t2, t3, t4, t5⟩ := HC6.out Y HYB.out
        rw [HDL.out] at t4
        obtain ⟨CS, hCS⟩ := ex_eq (Ck.Chk.chunks c data)
        rw [hCS] at HFI
        have HCS := Lib.hid hCS
        obtain ⟨cl, hcl⟩ := ex_eq CS.length
        have HCN := Lib.hid hcl
        clear hCS hcl
        go_upto_region 13 with (first
          | (go_at_call 73
             (with_reducible refine HFI.out.mono ?_)
             rintro e w2 ⟨blv2, bl2, ca, cc, rfl, h1, h2, h3, h4, h5, h6⟩
             rw [HCN.out]
             have HA2' := Lib.hid h1
             have HS2 := Lib.hid h2
             have HT2 := Lib.hid h3
             have HCC := Lib.hid h4
             have HRR := Lib.hid h5
             have HRB := Lib.hid h6
             have HI2 : Hid (w2.heap[A]? = some (.cells (IV.row (⟨⟨nm, 1, mode, time, dl, link, [], refZ⟩, none, 0⟩ : IV)) 149 (0, 0))) := Lib.hid ((HT2.out.chg.other A HAY.out (HT2.out.keeps HAY.out HAF.out.2.1 HAF.out.2.2.1 HAF.out.1)).trans HIY.out)
             obtain ⟨y0, y1, y2, y3, y4, y5, y6, y7, y8, y9⟩ := row10 HI2.out
             dsimp only at y0 y1 y2 y3 y4 y5 y6 y7 y8 y9
             have yf : ∀ i, w2.frozen? ⟨A, i, none⟩ = false := fun i => frozen_of_row _ _ _ _ _ HI2.out
             clear h1 h2 h3 h4 h5 h6 t0 t1 t2 t3 t4 t5))
        clear y0 y1 y2 y3 y4 y5 y6 y7 y8 y9 yf
        refine wp_over (fun Z => Hid (Z.heap[A]? = some (.cells (IV.row (⟨⟨nm, 1, mode, time, dl, link, CS.map (refOf K), refZ⟩, ca, cc⟩ : IV)) 149 (0, 0))) ∧ Hid (Chg (fun q _ => q = A) w2 Z)) ⟨Lib.hid (row10_f HI2.out _ cl (by rw [List.length_map]; exact HCN.out) ca cc), Lib.hid (Chg.setCell1 _ _ _ _ rfl)⟩ ?_
        rintro Z ⟨HIZ, HCZ⟩
        have HTZ0 : Hid (Bt g bk blv1 bl1 blv2 bl2 wr Z) := Lib.hid (((Bt.of_below HYW.out).trans HT2.out).more HCZ.out (fun q i _ e => by have e2 : q = A := e; have := HA2.out; have := HN.out; omega))
        have HSZ2 : Hid (BS Z g bi bk N0 (n + (((kidsF es p).take k).flatMap (entC c (dirC K c es f))).length + CS.length) K c blv2 bl2) := Lib.hid (HS2.out.turn HCZ.out (fun q e => by
          have e2 : q = A := e
          subst e2
          exact ⟨by have := HAF.out; have := HGN.out; omega, HT2.out.free HAF.out.1 HAY.out⟩))
        obtain ⟨x, hx⟩ : ∃ x : IV, x = ⟨⟨nm, 1, mode, time, dl, link, CS.map (refOf K), refZ⟩, ca, cc⟩ := ⟨_, rfl⟩
        rw [← hx] at HIZ
        have HXK : Hid (x.ok Z) := Lib.hid (by
          rw [hx]
          refine ⟨?_, ?_⟩
          · show (CS.map (refOf K)).length ≤ cc
            rw [List.length_map]; exact HCC.out
          · show RowsAt RefP.cells 3 Z ca (CS.map (refOf K))
            exact HRR.out.chg RefP.len HCZ.out (fun ad e _ i e2 => by have e3 : ad.block = A := e2; have := (HRB.out ad e).1; have := HAY.out; omega))
        have HXT : Hid (x.t = itOf K c (refOf K (nodeF K c es f (FE.p ⟨path, 1, mode, time, data, link⟩))) ⟨path, 1, mode, time, data, link⟩) := Lib.hid (by
          rw [hx]
          unfold itOf
          simp only [FE.p, HNM.out, HCS.out, HDL.out]
          simp)
        have HXAD : Hid (∀ ad, x.a = some ad → W.heap.size ≤ ad.block ∧ ad.block < Z.heap.size ∧ u6.ownBlock ≠ some ad.block ∧ Free ad.block blv2 bl2) := Lib.hid (fun ad e => by
          rw [hx] at e
          obtain ⟨h1, h2, h3⟩ := HRB.out ad e
          have h4 := HAY.out
          have h5 := HAF.out.2.2.2
          exact ⟨by omega, Nat.lt_of_lt_of_le h2 HCZ.out.size, fun e2 => by have := HVA.out _ e2; omega, h3⟩)
        have HEC : Hid (entC c (dirC K c es f) (⟨path, 1, mode, time, data, link⟩ : FE) = CS) := Lib.hid (by unfold entC; rw [if_pos rfl]; exact HCS.out)
        clear hx)
      rotate_left
      focus (
        obtain rfl : kind = 2 := hkind
        obtain ⟨m', hm1, hm2⟩ := HLATE.out.kid HEE.out.ok HKM.out
        have HEC : Hid (entC c (dirC K c es f) (⟨path, 2, mode, time, data, link⟩ : FE) = dirC K c es f path.data.toList) := Lib.hid (by unfold entC; simp [FE.p])
        obtain ⟨CS, hCS⟩ := ex_eq (dirC K c es f path.data.toList)
        have HCS := Lib.hid hCS
        rw [hCS] at HEC
        have HAL : Hid (bl1.length + CS.length ≤ 99000 ∧ n + (((kidsF es p).take k).flatMap (entC c (dirC K c es f))).length + CS.length ≤ 99000) := Lib.hid (by
          have h1 := HAD.out.len
          have h2 := HSUB.out
          rw [show entC c (dirC K c es f) (FV.e (⟨⟨path, 2, mode, time, data, link⟩, da, dc⟩ : FV)) = CS from HEC.out] at h2
          have h4 := HBL.out
          have h5 := HDC.out
          exact ⟨by omega, by omega⟩)
        have HIX := Lib.hid ((HIW.out.keep HSW.out HBT.out).later HXWR.out)
        have HDI := Lib.hid (HIH.out m' path.data.toList (by have := HMF.out; omega) hm2 path rfl (by have h := HEO.out.vp.len; rw [bytes_len] at h; exact h) (n + (((kidsF es p).take k).flatMap (entC c (dirC K c es f))).length) blv1 bl1 X (by rw [hCS]; exact HAL.out.1) (by rw [hCS]; exact HAL.out.2) HSX.out HIX.out HTX.out)
        rw [hCS] at HDI
        obtain ⟨r, hr⟩ := ex_eq (refOf K (nodeF K c es f path.data.toList))
        rw [hr] at HDI
        have HRE := Lib.hid hr
        obtain ⟨rn, rs⟩ := r
        unfold DirP RefP.row at HDI
        dsimp only at HDI
        clear hr hCS hm1 hm2
        go_upto_region 13 with (first
          | (go_at_call 32
             (with_reducible refine HDI.out.mono ?_)
             rintro e w2 ⟨blv2, bl2, rfl, h1, h2, h3⟩
             have HA2' := Lib.hid h1
             have HS2 := Lib.hid h2
             have HT2 := Lib.hid h3
             have HI2 : Hid (w2.heap[A]? = some (.cells (IV.row (⟨⟨nm, 2, mode, time, 0, link, [], refZ⟩, none, 0⟩ : IV)) 149 (0, 0))) := Lib.hid ((HT2.out.chg.other A HAS.out (HT2.out.keeps HAS.out HAF.out.2.1 HAF.out.2.2.1 HAF.out.1)).trans HIR.out)
             obtain ⟨y0, y1, y2, y3, y4, y5, y6, y7, y8, y9⟩ := row10 HI2.out
             dsimp only [refZ] at y0 y1 y2 y3 y4 y5 y6 y7 y8 y9
             have yf : ∀ i, w2.frozen? ⟨A, i, none⟩ = false := fun i => frozen_of_row _ _ _ _ _ HI2.out
             clear h1 h2 h3 t0 t1 t2 t3 t4 t5))
        clear y0 y1 y2 y3 y4 y5 y6 y7 y8 y9 yf
        refine wp_over (fun Z => Hid (Z.heap[A]? = some (.cells (IV.row (⟨⟨nm, 2, mode, time, 0, link, [], ⟨rn, rs⟩⟩, none, 0⟩ : IV)) 149 (0, 0))) ∧ Hid (Chg (fun q _ => q = A) w2 Z)) ⟨Lib.hid (row10_d HI2.out rn rs), Lib.hid (chg3_d w2 A _ _ _)⟩ ?_
        rintro Z ⟨HIZ, HCZ⟩
        have HTZ0 : Hid (Bt g bk blv1 bl1 blv2 bl2 wr Z) := Lib.hid (((Bt.of_below HXWR.out).trans HT2.out).more HCZ.out (fun q i _ e => by have e2 : q = A := e; have := HA2.out; have := HN.out; omega))
        have HSZ2 : Hid (BS Z g bi bk N0 (n + (((kidsF es p).take k).flatMap (entC c (dirC K c es f))).length + CS.length) K c blv2 bl2) := Lib.hid (HS2.out.turn HCZ.out (fun q e => by
          have e2 : q = A := e
          subst e2
          exact ⟨by have := HAF.out; have := HGN.out; omega, HT2.out.free HAF.out.1 HAS.out⟩))
        obtain ⟨x, hx⟩ : ∃ x : IV, x = ⟨⟨nm, 2, mode, time, 0, link, [], ⟨rn, rs⟩⟩, none, 0⟩ := ⟨_, rfl⟩
        rw [← hx] at HIZ
        have HXK : Hid (x.ok Z) := Lib.hid (by rw [hx]; exact ⟨Nat.le_refl _, .inl rfl⟩)
        have HXT : Hid (x.t = itOf K c (refOf K (nodeF K c es f (FE.p ⟨path, 2, mode, time, data, link⟩))) ⟨path, 2, mode, time, data, link⟩) := Lib.hid (by
          rw [hx]
          unfold itOf
          simp only [FE.p, HNM.out, HRE.out]
          simp)
        have HXAD : Hid (∀ ad, x.a = some ad → W.heap.size ≤ ad.block ∧ ad.block < Z.heap.size ∧ u6.ownBlock ≠ some ad.block ∧ Free ad.block blv2 bl2) := Lib.hid (fun ad e => by
          rw [hx] at e
          cases e)
        clear hx)
      rotate_left
      focus (
        obtain rfl : kind = 3 := hkind
        go_upto_region 13 with fail
        clear t0 t1 t2 t3 t4 t5
        obtain ⟨Z, hZ⟩ := ex_eq X
        rw [hZ] at HIR HSX HXWR ⊢
        obtain ⟨blv2, hb2⟩ := ex_eq blv1
        obtain ⟨bl2, hl2⟩ := ex_eq bl1
        obtain ⟨CS, hCS⟩ : ∃ CS : List (List Nat), CS = [] := ⟨_, rfl⟩
        have HIZ := HIR
        have HTZ0 : Hid (Bt g bk blv1 bl1 blv2 bl2 wr Z) := Lib.hid (by rw [← hb2, ← hl2]; exact Bt.of_below HXWR.out)
        have HA2' : Hid (AddsP K CS bl1 bl2) := Lib.hid (by rw [hCS, ← hl2]; exact AddsP.nil _ _)
        have HSZ2 : Hid (BS Z g bi bk N0 (n + (((kidsF es p).take k).flatMap (entC c (dirC K c es f))).length + CS.length) K c blv2 bl2) := Lib.hid (by rw [hCS, ← hb2, ← hl2]; exact HSX.out)
        obtain ⟨x, hx⟩ : ∃ x : IV, x = ⟨⟨nm, 3, mode, time, 0, link, [], refZ⟩, none, 0⟩ := ⟨_, rfl⟩
        rw [← hx] at HIZ
        have HXK : Hid (x.ok Z) := Lib.hid (by rw [hx]; exact ⟨Nat.le_refl _, .inl rfl⟩)
        have HXT : Hid (x.t = itOf K c (refOf K (nodeF K c es f (FE.p ⟨path, 3, mode, time, data, link⟩))) ⟨path, 3, mode, time, data, link⟩) := Lib.hid (by
          rw [hx]
          unfold itOf
          simp only [FE.p, HNM.out]
          simp)
        have HXAD : Hid (∀ ad, x.a = some ad → W.heap.size ≤ ad.block ∧ ad.block < Z.heap.size ∧ u6.ownBlock ≠ some ad.block ∧ Free ad.block blv2 bl2) := Lib.hid (fun ad e => by
          rw [hx] at e
          cases e)
        have HEC : Hid (entC c (dirC K c es f) (⟨path, 3, mode, time, data, link⟩ : FE) = CS) := Lib.hid (by rw [hCS]; rfl)
        clear hx hZ hb2 hl2 hCS)
      all_goals (
        have HST2 := Lib.hid (HRW.out.step HFR.out HBS.out (by have := HGN.out; omega) HTZ0.out)
        obtain ⟨y0, y1, y2, y3, y4, y5, y6, y7, y8, y9⟩ := row10 HIZ.out
        have HK5 : Hid (k ≤ 5000000) := Lib.hid (by have := HKL.out; omega)
        have HZW : Hid (W.heap.size ≤ Z.heap.size) := Lib.hid (by have := HBT.out.size; have := HTZ0.out.size; omega)
        have HOW : Hid (Z.ownsRow W.heap.size 149 10 u6 k (L.flatMap IV.cells)) := Lib.hid (by have h := HST2.out.1.own; rw [HLL.out] at h; exact h)
        have hn8 : nx ≤ 8 := HKL.out.2
        go_wp2_with (first
          | (at_builtin
             refine app_at kindIT rfl _ _ rfl W.heap.size u6 k L (by rfl) HOW.out HZW.out HK5.out x _ (by rfl) 1 (by rfl) ?_
             intro v' w9 h1 h2 h3
             have H1 := Lib.hid h1
             have H2 := Lib.hid h2
             have H3 := Lib.hid h3
             clear h1 h2 h3))
        clear y0 y1 y2 y3 y4 y5 y6 y7 y8 y9
        have HCH9 : Hid (Chg (fun q _ => u6.ownBlock = some q) Z w9) := Lib.hid ((Chg.alloc1 Z _).trans (Chg.of_grown H2.out (fun q _ e => e)))
        have HTU : Hid (∀ q, u6.ownBlock = some q → W.heap.size ≤ q ∧ Free q blv2 bl2) := Lib.hid (fun q hq => ⟨(HST2.out.1.own.lt q hq).1, HST2.out.2.1 q hq⟩)
        go_roundw
        case rel =>
          refine ⟨k + 1, blv2, bl2, L ++ [x], by omega, by go_num, Lib.hid ?_, Lib.hid ?_, Lib.hid ?_, Lib.hid ((HBT.out.trans HTZ0.out).more HCH9.out (fun q i _ e => (HTU.out q e).1)), Lib.hid ?_, Lib.hid ⟨fun q hq => ?_, fun x2 hx2 ad e => ?_⟩⟩
          · rw [HTK.out, List.map_append, List.map_append, HLI.out, List.map_singleton, List.map_singleton, HXT.out]
          · rw [HTK.out, List.flatMap_append, List.flatMap_singleton, HEC.out]
            exact HAD.out.append HA2'.out
          · have h1 := HSZ2.out.turn HCH9.out (fun q e => ⟨by have := (HTU.out q e).1; have := HGN.out; omega, (HTU.out q e).2⟩)
            rw [HTK.out, List.flatMap_append, List.flatMap_singleton, HEC.out, List.length_append, ← Nat.add_assoc]
            exact h1
          · exact HST2.out.1.snoc HXK.out (fun ad e => ⟨(HXAD.out ad e).1, (HXAD.out ad e).2.1, (HXAD.out ad e).2.2.1⟩) (by rw [HLL.out]; exact H1.out) H2.out H3.out
          · rcases H3.out with h3 | h3
            · exact HST2.out.2.1 q (h3 ▸ hq)
            · rw [h3] at hq
              cases hq
              exact HSZ2.out.fresh (Nat.le_succ _)
          · rcases List.mem_append.1 hx2 with h4 | h4
            · exact HST2.out.2.2 x2 h4 ad e
            · rw [List.mem_singleton.1 h4] at e
              exact (HXAD.out ad e).2.2.2
        case measure => simp [intOf]; omega)
end Go.Proofs.YtmcbnhkcjhlbaaaGreatDoor.Tp
end
