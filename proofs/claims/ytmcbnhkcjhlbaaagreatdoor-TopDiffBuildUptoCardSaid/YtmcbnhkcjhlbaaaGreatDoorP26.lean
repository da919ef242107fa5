/- Texts Qwr, Tnc, Twx, Twy of the proof, each as a section; no premises beyond those that each theorem states. -/
import Derived.Maps.AppendAt
import Derived.IntWalk
import Derived.Sort.Walk0
import Derived.Test.YtmcbnhkcjhlbaaaGreatDoorP12
import Derived.Test.YtmcbnhkcjhlbaaaGreatDoorP25
set_option linter.unusedVariables false
set_option linter.unusedSimpArgs false
section
namespace Go.Proofs.YtmcbnhkcjhlbaaaGreatDoor
open Go.RowKit
open Kit (Chg)
open Sha (v)
open Go.Proofs.YtmcbnhkcjhlbaaaGreatDoor.One

def NotX (X : Nat → Prop) : Nat → Nat → Prop := fun q _ => ¬ X q
theorem NotX.alloc (X : Nat → Prop) (w : World) (o : Obj) : Chg (NotX X) w (w.alloc o) := Chg.alloc1 w o
theorem NotX.own {X : Nat → Prop} {w w' : World} {own : Option Nat} (hg : w.grownBy w' own) (hx : ∀ q, own = some q → ¬ X q) : Chg (NotX X) w w' := Chg.of_grown hg (fun q _ e => hx q e)
theorem NotX.next {X : Nat → Prop} {w : World} {own new : Option Nat} (hX : ∀ q, X q → q < w.heap.size) (hx : ∀ q, own = some q → ¬ X q) (h : new = own ∨ new = some w.heap.size) : ∀ q, new = some q → ¬ X q := fun q e hq => by
  rcases h with h | h
  · exact hx q (by rw [← h]; exact e) hq
  · rw [h] at e
    have := hX q hq
    cases e
    omega
set_option maxRecDepth 100000 in
set_option maxHeartbeats 1000000 in
theorem extend_x (base : Nat) (X : Nat → Prop) (x : Value) (bs : List Nat) (n : Nat) (hn : n < 18446744073709551616) (hl : bs.length ≤ 100000) (w : World) (hO : w.ownsRow base 5 1 x bs.length (bvals bs)) (hb : base ≤ w.heap.size) (hX : ∀ q, X q → q < w.heap.size) (hx : ∀ q, x.ownBlock = some q → ¬ X q) :
    Calls Tryz.prog 164 #[x, .int .u64 (n : Int)] w fun e w' => ∃ v', e = .returned v' ∧ w'.ownsRow base 5 1 v' (bs ++ num n).length (bvals (bs ++ num n)) ∧ (∀ q, v'.ownBlock = some q → ¬ X q) ∧ Chg (NotX X) w w' := by
  have HO := Lib.hid hO
  have HN10 := Lib.hid (num_len10 hn)
  have HL := Lib.hid hl
  have HBB := Lib.hid hb
  have HXX := Lib.hid hX
  have HX0 := Lib.hid hx
  obtain ⟨i0, hi, hz0, hz1, hz2⟩ := info_parts Tryz.info5
  have FI := Lib.hid hi
  have FZ0 := Lib.hid hz0
  have FZ1 := Lib.hid hz1
  have FZ2 := Lib.hid hz2
  clear hi hz0 hz1 hz2 hO hl hb hX hx
  go_enter Tryz.func164, Tryz.ntmps164
  go_wp2_with fail
  go_loopw [0, 1] (fun x y wr => ∃ (k : Nat) (cur : List Nat), y = .int .u64 (k : Int) ∧ k < 18446744073709551616 ∧ Hid (cur ++ num k = bs ++ num n) ∧ Hid (wr.ownsRow base 5 1 x cur.length (bvals cur)) ∧ Hid (∀ q, x.ownBlock = some q → ¬ X q) ∧ Hid (Chg (NotX X) w wr)) (fun _ y _ => (intOf y).toNat)
  case atStart => exact ⟨n, bs, rfl, hn, rfl, HO.out, HX0.out, Chg.refl _ _⟩
  case round =>
    obtain ⟨k, cur, rfl, hk, HE, HOW, HOX, HC⟩ := hrel
    have HCL : Hid (cur.length ≤ 100010) := Lib.hid (by have := congrArg List.length HE.out; rw [List.length_append, List.length_append] at this; have := HN10.out; have := HL.out; omega)
    have HBS : Hid (base ≤ wr.heap.size) := Lib.hid (by have := HC.out.size; have := HBB.out; omega)
    have HXR : Hid (∀ q, X q → q < wr.heap.size) := Lib.hid (fun q hq => Nat.lt_of_lt_of_le (HXX.out q hq) HC.out.size)
    by_cases h128 : 128 ≤ k
    · have hi128 : (128 : Int) ≤ (k : Int) := by omega
      have HBV : Hid (bvals cur ++ [.int .u8 (bits .or .u8 ((k : Int) % 256) 128)] = bvals (cur ++ [k % 128 + 128])) := Lib.hid (by rw [bvals_snoc, or128])
      have HNE : Hid (cur ++ [k % 128 + 128] ++ num (k / 128) = bs ++ num n) := Lib.hid (by rw [← HE.out, num_big h128]; simp)
      go_wp2_with (first
        | (at_builtin
           refine wpList_append_own_at _ rfl _ _ 52 rfl base 5 i0 (.int .u8 0) 1 1 Tryz.underlying52 FI.out FZ0.out FZ1.out FZ2.out rfl (by decide) _ _ _ rfl (HOW.out.alloc _) ⟨wr.heap.size, 0, none⟩ 1 1 [.int .u8 (bits .or .u8 ((k : Int) % 256) 128)] rfl rfl (cell_one_new _ _ _) (by simp [Value.oneCell']) (by have := HCL.out; unfold maxLen; omega) (by have := HCL.out; omega) (by have := HBS.out; simp; omega) ?_
           intro v' w4 hown4 hgr4 _ hat4
           have HO4 : Hid (w4.ownsRow base 5 1 v' (cur.length + 1) (bvals (cur ++ [k % 128 + 128]))) := by rw [← HBV.out]; exact hown4
           have HX4 : Hid (∀ q, v'.ownBlock = some q → ¬ X q) := Lib.hid (NotX.next (fun q hq => by have := HXR.out q hq; simp; omega) HOX.out hat4)
           have HC4 : Hid (Chg (NotX X) wr w4) := Lib.hid ((NotX.alloc X wr _).trans (NotX.own hgr4 HOX.out))
           clear hown4 hgr4 hat4))
      go_roundw
      case rel => exact ⟨k / 128, cur ++ [k % 128 + 128], by go_num, by omega, HNE.out, by rw [List.length_append]; exact HO4.out, HX4.out, HC.out.trans HC4.out⟩
      case measure => simp [intOf]; omega
    · have hi128 : ¬ (128 : Int) ≤ (k : Int) := by omega
      have HBV : Hid (bvals cur ++ [.int .u8 (k : Int)] = bvals (cur ++ [k])) := Lib.hid (by rw [bvals_snoc])
      have HNE : Hid (cur ++ [k] = bs ++ num n) := Lib.hid (by rw [← HE.out, num_small (by omega)])
      go_wp2_with (first
        | (at_builtin
           refine wpList_append_own_at _ rfl _ _ 52 rfl base 5 i0 (.int .u8 0) 1 1 Tryz.underlying52 FI.out FZ0.out FZ1.out FZ2.out rfl (by decide) _ _ _ rfl (HOW.out.alloc _) ⟨wr.heap.size, 0, none⟩ 1 1 [.int .u8 (k : Int)] rfl rfl (cell_one_new _ _ _) (by simp [Value.oneCell']) (by have := HCL.out; unfold maxLen; omega) (by have := HCL.out; omega) (by have := HBS.out; simp; omega) ?_
           intro v' w4 hown4 hgr4 _ hat4
           have HO4 : Hid (w4.ownsRow base 5 1 v' (cur.length + 1) (bvals (cur ++ [k]))) := by rw [← HBV.out]; exact hown4
           have HX4 : Hid (∀ q, v'.ownBlock = some q → ¬ X q) := Lib.hid (NotX.next (fun q hq => by have := HXR.out q hq; simp; omega) HOX.out hat4)
           have HC4 : Hid (Chg (NotX X) wr w4) := Lib.hid ((NotX.alloc X wr _).trans (NotX.own hgr4 HOX.out))
           clear hown4 hgr4 hat4))
      go_ret
      refine ⟨_, rfl, ?_, HX4.out, HC.out.trans HC4.out⟩
      have h := HO4.out
      have e : cur.length + 1 = (bs ++ num n).length := by rw [← HNE.out]; simp
      rw [e, HNE.out, List.length_append] at h
      exact h
def WrX (w : World) (g B : Nat) (X : Nat → Prop) (bs : List Nat) : Prop := g < B ∧ B ≤ w.heap.size ∧ ¬ X g ∧ (∀ q, X q → q < w.heap.size) ∧ ∃ v L, bs.length = L ∧ w.heap[g]? = some (.cells #[v, .int .i64 0] 276 (0, 0)) ∧ w.ownsRow B 5 1 v L (bvals bs) ∧ (∀ x ∈ bs, x < 256) ∧ ∀ q, v.ownBlock = some q → ¬ X q
theorem WrX.at {w : World} {g B : Nat} {X : Nat → Prop} {bs : List Nat} (h : WrX w g B X bs) : WrAt w g B bs := by
  obtain ⟨h1, h2, _, _, v, L, h3, h4, h5, h6, _⟩ := h
  exact ⟨h1, h2, v, L, h3, h4, h5, h6⟩
theorem WrAt.x {w : World} {g B : Nat} {bs : List Nat} (h : WrAt w g B bs) : ∃ k, (k = g ∨ (B ≤ k ∧ k < w.heap.size)) ∧ ∀ w', Below w.heap.size w w' → WrX w' g B (fun q => q < w'.heap.size ∧ q ≠ g ∧ q ≠ k) bs := by
  have hl := fun w' (hb : Below w.heap.size w w') => h.later hb
  obtain ⟨h1, h2, v, L, h3, h4, h5, h6⟩ := h
  have hk : ∃ k, (k = g ∨ (B ≤ k ∧ k < w.heap.size)) ∧ ∀ q, v.ownBlock = some q → q = k := by
    cases hv : v.ownBlock with
    | none => exact ⟨g, .inl rfl, fun q e => by cases e⟩
    | some k => exact ⟨k, .inr (h5.lt k hv), fun q e => by cases e; rfl⟩
  obtain ⟨k, hk1, hk2⟩ := hk
  refine ⟨k, hk1, fun w' hb => ⟨h1, Nat.le_trans h2 hb.size, fun hx => hx.2.1 rfl, fun q hq => hq.1, v, L, h3, (hb.block g (Array.getElem?_eq_some_iff.1 h4).1).trans h4, ownsRow_keepM h5 (Chg.of_below hb : Chg (fun _ _ => False) w w') (fun q hq i e => e), h6, fun q e hx => hx.2.2 (hk2 q e)⟩⟩
set_option maxRecDepth 100000 in
set_option maxHeartbeats 1000000 in
theorem wrUint_x (g B : Nat) (X : Nat → Prop) (bs : List Nat) (n : Nat) (hn : n < 18446744073709551616) (hl : bs.length ≤ 100000) (w : World) (h : WrX w g B X bs) :
    Calls Tryz.prog 123 #[.pointer (some ⟨g, 0, none⟩), .int .u64 (n : Int)] w fun e w' => e = .returned (.tuple #[]) ∧ WrX w' g B X (bs ++ num n) ∧ Chg (NotX X) w w' := by
  obtain ⟨hgB, hlt, hgX, hXX, v0, L, hL, hg, ho, hb8, hv0⟩ := h
  subst hL
  have HG := Lib.hid hg
  have HX := Lib.hid (extend_x B (fun q => X q ∨ q = g) v0 bs n hn hl w ho hlt (fun q hq => by
    rcases hq with hq | hq
    · exact hXX q hq
    · rw [hq]; omega) (fun q e hq => by
    rcases hq with hq | hq
    · exact hv0 q e hq
    · have := (ho.lt q e).1; omega))
  have HLT := Lib.hid hlt
  have HGB := Lib.hid hgB
  have HGX := Lib.hid hgX
  have HXX := Lib.hid hXX
  have HLN : Hid ((bs ++ num n).length ≤ 1000000) := Lib.hid (by rw [List.length_append]; have := num_len10 hn; omega)
  have HB8 : Hid (∀ x ∈ bs ++ num n, x < 256) := Lib.hid (app_lt hb8 (num_lt n))
  obtain ⟨c0, c1, cf⟩ := wr_cells hg
  obtain ⟨cs, hcs⟩ := ex_eq (bs ++ num n)
  rw [hcs] at HX HLN HB8 ⊢
  clear hg ho hlt hgB hb8 hl hgX hXX hv0 hcs hn
  go_enter Tryz.func123, Tryz.ntmps123
  go_wp2_with (first
    | (go_at_call 164
       (refine HX.out.mono ?_)
       rintro e w2 ⟨v2, rfl, ho2, hx2, h2⟩
       obtain ⟨a2, cp2, rfl, _, _, _, _, _⟩ := own_bytes ho2 HB8.out (by have := HLN.out; unfold maxLen; omega)
       have HG2 := Lib.hid ((h2.other g (Array.getElem?_eq_some_iff.1 HG.out).1 (fun i hm => hm (.inr rfl))).trans HG.out)
       have HO2 := Lib.hid ho2
       have HX2 := Lib.hid hx2
       have H2 := Lib.hid h2
       clear c0 c1 cf
       obtain ⟨c0, c1, cf⟩ := wr_cells HG2.out
       clear ho2 hx2 h2))
  go_end0
  refine ⟨rfl, ⟨HGB.out, by have := H2.out.size; have := HLT.out; simp [World.setCell]; omega, HGX.out, fun q hq => by have := HXX.out q hq; have := H2.out.size; simp [World.setCell]; omega, _, _, rfl, heap_setCell_same w2 g 0 _ _ _ HG2.out, ownsRow_keepM HO2.out (Chg.setCell1 (M := fun q _ => q = g) w2 g 0 _ rfl) (fun q hq i e => by have := (HO2.out.lt q hq).1; have := HGB.out; omega), HB8.out, fun q e hq => HX2.out q e (.inl hq)⟩, ?_⟩
  exact (H2.out.mono (fun q i _ h hq => h (.inl hq))).setCell _ HGX.out
end Go.Proofs.YtmcbnhkcjhlbaaaGreatDoor
end
section
namespace Go.Proofs.YtmcbnhkcjhlbaaaGreatDoor.Tp
open Go.RowKit
open Kit (Chg)
open Go.Proofs.YtmcbnhkcjhlbaaaGreatDoor.One

def ISAt (w : World) (a : Option Addr) (xs : List IV) : Prop := RowsAt IV.cells 10 w a xs ∧ ∀ x ∈ xs, x.ok w
theorem ISAt.later {w w' : World} {a : Option Addr} {xs : List IV} (h : ISAt w a xs) (hb : Below w.heap.size w w') : ISAt w' a xs := ⟨h.1.later IV.len hb, fun x hx => (h.2 x hx).later hb⟩
theorem ISAt.ten {w : World} {a : Option Addr} {xs : List IV} (h : ISAt w a xs) (k : Nat) (hk : k < xs.length) : ∃ b o, a = some ⟨b, o, none⟩ ∧ w.cell? ⟨b, o + k * 10, none⟩ = some (.string xs[k].t.name) ∧ w.cell? ⟨b, o + k * 10 + 1, none⟩ = some (.int .i64 xs[k].t.kind) ∧ w.cell? ⟨b, o + k * 10 + 2, none⟩ = some (.int .i64 xs[k].t.mode) ∧ w.cell? ⟨b, o + k * 10 + 3, none⟩ = some (.int .i64 xs[k].t.time) ∧ w.cell? ⟨b, o + k * 10 + 4, none⟩ = some (.int .i64 (xs[k].t.size : Int)) ∧ w.cell? ⟨b, o + k * 10 + 5, none⟩ = some (.string xs[k].t.link) ∧ w.cell? ⟨b, o + k * 10 + 6, none⟩ = some (.slice xs[k].a xs[k].t.chunks.length xs[k].c) ∧ w.cell? ⟨b, o + k * 10 + 7, none⟩ = some (.string xs[k].t.node.name) ∧ w.cell? ⟨b, o + k * 10 + 8, none⟩ = some (.int .i64 0) ∧ w.cell? ⟨b, o + k * 10 + 9, none⟩ = some (.int .i64 (xs[k].t.node.size : Int)) := by
  obtain ⟨b, o, e, hc⟩ := h.1.one k hk
  exact ⟨b, o, e, hc 0 (by decide), hc 1 (by decide), hc 2 (by decide), hc 3 (by decide), hc 4 (by decide), hc 5 (by decide), hc 6 (by decide), hc 7 (by decide), hc 8 (by decide), hc 9 (by decide)⟩
theorem new_row10 {w : World} {x : IV} {T : TypeId} : (w.alloc (.cells x.row T)).heap[w.heap.size]? = some (.cells x.row T (0, 0)) := heap_alloc_new _ _
def NameOrd (a b : IT) : Prop := a.name.toList < b.name.toList
theorem cmpP_lex : ∀ (a b : Bs), 47 ∉ a → 47 ∉ b → cmpP a b < 0 → a < b
  | [], [], _, _, h => by simp [cmpP] at h
  | [], _ :: _, _, _, _ => List.nil_lt_cons _ _
  | _ :: _, [], _, _, h => by simp [cmpP] at h
  | x :: a, y :: b, ha, hb, h => by
    unfold cmpP at h
    rw [List.cons_lt_cons_iff]
    split at h
    · rename_i e
      exact .inr ⟨e, cmpP_lex a b (fun q => ha (List.mem_cons_of_mem _ q)) (fun q => hb (List.mem_cons_of_mem _ q)) h⟩
    · split at h
      · rename_i h1
        refine .inl ?_
        unfold rk at h1
        rw [if_neg (fun e => ha (by rw [e]; simp)), if_neg (fun e => hb (by rw [e]; simp))] at h1
        exact UInt8.lt_iff_toNat_lt.2 (by omega)
      · omega
set_option maxRecDepth 100000 in
set_option maxHeartbeats 4000000 in
theorem validNode_ok (a : Option Addr) (n cap : Nat) (xs : List IV) (hn : xs.length = n) (hcap : n ≤ cap) (hm : n ≤ 4096) (w : World) (hX : ISAt w a xs) (hok : ∀ x ∈ xs, x.t.ok) (hord : (xs.map IV.t).Pairwise NameOrd) (hT : Top w) : Calls Tryz.prog 119 #[.slice a n cap] w fun e w' => e = .returned (.bool true) ∧ Below w.heap.size w w' := by
  have HN := Lib.hid hn
  have HX := Lib.hid hX
  have HOKS := Lib.hid hok
  have HORD := Lib.hid hord
  have HT := Lib.hid hT
  have hz : ¬ (4096 : Int) < (n : Int) := by omega
  clear hn hX hok hord hT
  go_enter Tryz.func119, Tryz.ntmps119
  go_upto_region 4 with fail
  go_loopw [10] (fun z wr => ∃ k : Nat, k ≤ n ∧ z = .int .i64 (k : Int) ∧ Hid (Below w.heap.size w wr)) (fun z _ => n - (intOf z).toNat)
  case atStart => exact ⟨0, Nat.zero_le _, rfl, Lib.hid (Below.refl _ _)⟩
  case round =>
    obtain ⟨k, hk, rfl, HB⟩ := hrel
    by_cases hlt : k < n
    rotate_left
    · go_wp2_with fail
      go_ret
      exact ⟨rfl, HB.out⟩
    have hkx : k < xs.length := by rw [HN.out]; exact hlt
    have HXW := Lib.hid (HX.out.later HB.out)
    obtain ⟨b, o, rfl, c0, c1, c2, c3, c4, c5, c6, c7, c8, c9⟩ := HXW.out.ten k hkx
    have HLT2 : Hid (b < wr.heap.size) := Lib.hid (World.block_lt_of_cell? wr _ c0)
    obtain ⟨x, hx⟩ : ∃ x, xs[k] = x := ⟨_, rfl⟩
    rw [hx] at c0 c1 c2 c3 c4 c5 c6 c7 c9
    have HVI : Hid (∀ V, Below w.heap.size w V → Calls Tryz.prog 163 #[.agg x.row] V fun e w' => e = .returned (.bool true) ∧ Below V.heap.size V w') := Lib.hid (fun V h => validItem_ok x V ((by rw [← hx]; exact HX.out.2 _ (List.getElem_mem hkx) : x.ok w).later h) (by rw [← hx]; exact HOKS.out _ (List.getElem_mem hkx)) (HT.out.later h))
    have hprev : k = 0 ∨ ∃ (k0 : Nat) (pn : ByteArray), k = k0 + 1 ∧ wr.cell? ⟨b, o + k0 * 10, none⟩ = some (.string pn) ∧ pn.toList < x.t.name.toList := by
      by_cases h0 : k = 0
      · exact .inl h0
      · obtain ⟨k0, rfl⟩ : ∃ k0, k = k0 + 1 := ⟨k - 1, by omega⟩
        have hk0 : k0 < xs.length := by omega
        obtain ⟨b', o', e, d0, _⟩ := HXW.out.ten k0 hk0
        cases e
        refine .inr ⟨k0, xs[k0].t.name, rfl, d0, ?_⟩
        have h1 := List.pairwise_iff_getElem.1 HORD.out k0 (k0 + 1) (by rw [List.length_map]; exact hk0) (by rw [List.length_map]; exact hkx) (Nat.lt_succ_self _)
        rw [List.getElem_map, List.getElem_map, hx] at h1
        exact h1
    have HPR := Lib.hid hprev
    clear hx hprev
    obtain ⟨⟨name, kind, mode, time, size, link, chunks, ⟨nname, nsize⟩⟩, ca, cc⟩ := x
    unfold IV.row at HVI
    dsimp only at c0 c1 c2 c3 c4 c5 c6 c7 c8 c9 HVI HPR
    go_upto_region 6 with fail
    refine wp_over (fun V => Hid (V.heap[wr.heap.size]? = some (.cells (IV.row (⟨⟨name, kind, mode, time, size, link, chunks, ⟨nname, nsize⟩⟩, ca, cc⟩ : IV)) 149 (0, 0))) ∧ Hid (Below wr.heap.size wr V) ∧ Hid (V.heap.size = wr.heap.size + 1)) ⟨Lib.hid (new_row10 (x := (⟨⟨name, kind, mode, time, size, link, chunks, ⟨nname, nsize⟩⟩, ca, cc⟩ : IV))), Lib.hid ((Below.refl _ _).alloc (Nat.le_refl _) _), Lib.hid (by simp)⟩ ?_
    rintro W ⟨HR, HWB, HWS⟩
    clear c0 c1 c2 c3 c4 c5 c6 c7 c8 c9
    obtain ⟨N, hN⟩ := ex_eq wr.heap.size
    rw [hN] at HR HWS HLT2 ⊢
    have HNW := Lib.hid hN
    clear hN
    have HBW : Hid (∀ V, Below (N + 1) W V → Below w.heap.size w V) := Lib.hid (fun V h => (HB.out.trans (HWB.out.mono HB.out.size)).trans (h.mono (by have := HB.out.size; have := HNW.out; omega)))
    have HC : Hid (∀ V, Below (N + 1) W V → (V.cell? ⟨N, 0, none⟩ = some (.string name) ∧ V.cell? ⟨N, 1, none⟩ = some (.int .i64 kind) ∧ V.cell? ⟨N, 2, none⟩ = some (.int .i64 mode) ∧ V.cell? ⟨N, 3, none⟩ = some (.int .i64 time) ∧ V.cell? ⟨N, 4, none⟩ = some (.int .i64 (size : Int)) ∧ V.cell? ⟨N, 5, none⟩ = some (.string link) ∧ V.cell? ⟨N, 6, none⟩ = some (.slice ca chunks.length cc) ∧ V.cell? ⟨N, 7, none⟩ = some (.string nname) ∧ V.cell? ⟨N, 8, none⟩ = some (.int .i64 0) ∧ V.cell? ⟨N, 9, none⟩ = some (.int .i64 (nsize : Int)))) := Lib.hid (fun V h => row10 (x := (⟨⟨name, kind, mode, time, size, link, chunks, ⟨nname, nsize⟩⟩, ca, cc⟩ : IV)) ((h.block N (by omega)).trans HR.out))
    replace HVI : Hid (∀ V, Below (N + 1) W V → Calls Tryz.prog 163 #[.agg #[.string name, .int .i64 kind, .int .i64 mode, .int .i64 time, .int .i64 (size : Int), .string link, .slice ca chunks.length cc, .string nname, .int .i64 0, .int .i64 (nsize : Int)]] V fun e w' => e = .returned (.bool true) ∧ Below V.heap.size V w') := Lib.hid (fun V h => HVI.out V (HBW.out V h))
    rcases HPR.out with h0 | ⟨k0, pn, hk0, d0, hlast⟩
    · have hz0 : ¬ 0 < k := by omega
      clear h0
      obtain ⟨VD, hVD⟩ := ex_eq W.drew
      have HDR : Hid (Below (N + 1) W VD) := Lib.hid (by rw [← hVD]; exact (Below.refl _ _).drew)
      refine Kit.wp_region_hplan (fun V => (V.cell? ⟨N, 0, none⟩ = some (.string name) ∧ V.cell? ⟨N, 1, none⟩ = some (.int .i64 kind) ∧ V.cell? ⟨N, 2, none⟩ = some (.int .i64 mode) ∧ V.cell? ⟨N, 3, none⟩ = some (.int .i64 time) ∧ V.cell? ⟨N, 4, none⟩ = some (.int .i64 (size : Int)) ∧ V.cell? ⟨N, 5, none⟩ = some (.string link) ∧ V.cell? ⟨N, 6, none⟩ = some (.slice ca chunks.length cc) ∧ V.cell? ⟨N, 7, none⟩ = some (.string nname) ∧ V.cell? ⟨N, 8, none⟩ = some (.int .i64 0) ∧ V.cell? ⟨N, 9, none⟩ = some (.int .i64 (nsize : Int)))) [(true, 0), (false, 1), (true, 2), (true, 3), (true, 4), (true, 5), (true, 6), (true, 7), (true, 8), (true, 9), (true, 10), (true, 11), (true, 12), (true, 13), (true, 14), (true, 15), (true, 16), (true, 17)] (by kernel_rfl) (by kernel_rfl) (by kernel_rfl) (by kernel_rfl) (by rw [hVD]; exact HC.out _ HDR.out) ?_
      rw [hVD]
      clear hVD
      iterate 1 (refine Kit.hplan_head (by rfl) (by first | exact .inr ⟨by rfl, rfl⟩ | exact .inl ⟨by rfl, fun w' hS => by (dsimp only at hS); go_simp; (try with_reducible rfl)⟩) ?_; (try simp only [Act.put, List.setIfInBounds_toArray, List.set_cons_zero, List.set_cons_succ]))
      refine Kit.hplan_op (by rfl) (by rfl) fun K hK => ?_
      go_simp
      go_at_call 163
      refine (HVI.out _ HDR.out).mono ?_
      rintro e W2 ⟨rfl, hb2⟩
      have H2 : Hid (Below (N + 1) W W2) := Lib.hid (HDR.out.trans (hb2.mono (by have := HDR.out.size; have := HWS.out; omega)))
      clear hb2
      refine hK _ _ (HC.out _ H2.out) ?_
      clear hK K
      iterate 16 (refine Kit.hplan_head (by rfl) (by first | exact .inr ⟨by rfl, rfl⟩ | exact .inl ⟨by rfl, fun w' hS => by (dsimp only at hS); go_simp; (try with_reducible rfl)⟩) ?_; (try simp only [Act.put, List.setIfInBounds_toArray, List.set_cons_zero, List.set_cons_succ]))
      refine Kit.hplan_done ?_
      (try simp only [Act.put, List.setIfInBounds_toArray, List.set_cons_zero, List.set_cons_succ])
      (try go_wp2_with fail)
      go_roundw
      case rel => exact ⟨k + 1, by omega, by go_num, Lib.hid (HBW.out _ H2.out)⟩
      case measure => simp [intOf]; omega
    · have hz0 : 0 < k := by omega
      have hki : (k : Int) - 1 = (k0 : Int) := by omega
      have hkn : (k0 : Int) < (n : Int) := by omega
      have hkw : IntKind.i64.wrap (k0 : Int) = (k0 : Int) := IntWalk.i64_in _ (by omega)
      have hk00 : (0 : Int) ≤ (k0 : Int) := by omega
      have HCP : Hid (∀ V, Below (N + 1) W V → (V.cell? ⟨N, 0, none⟩ = some (.string name) ∧ V.cell? ⟨N, 1, none⟩ = some (.int .i64 kind) ∧ V.cell? ⟨N, 2, none⟩ = some (.int .i64 mode) ∧ V.cell? ⟨N, 3, none⟩ = some (.int .i64 time) ∧ V.cell? ⟨N, 4, none⟩ = some (.int .i64 (size : Int)) ∧ V.cell? ⟨N, 5, none⟩ = some (.string link) ∧ V.cell? ⟨N, 6, none⟩ = some (.slice ca chunks.length cc) ∧ V.cell? ⟨N, 7, none⟩ = some (.string nname) ∧ V.cell? ⟨N, 8, none⟩ = some (.int .i64 0) ∧ V.cell? ⟨N, 9, none⟩ = some (.int .i64 (nsize : Int))) ∧ V.cell? ⟨b, o + k0 * 10, none⟩ = some (.string pn)) := Lib.hid (fun V h => ⟨HC.out V h, (h.cell (p := ⟨b, o + k0 * 10, none⟩) (by have := HLT2.out; show b < _; omega)).trans ((HWB.out.cell (p := ⟨b, o + k0 * 10, none⟩) (by have := HLT2.out; have := HNW.out; show b < _; omega)).trans d0)⟩)
      have hlt2 : Go.Op.bytesLess pn.toList name.toList = true := by rw [bytesLess_eq]; exact decide_eq_true hlast
      clear hk0 d0
      obtain ⟨VD, hVD⟩ := ex_eq W.drew
      have HDR : Hid (Below (N + 1) W VD) := Lib.hid (by rw [← hVD]; exact (Below.refl _ _).drew)
      refine Kit.wp_region_hplan (fun V => (V.cell? ⟨N, 0, none⟩ = some (.string name) ∧ V.cell? ⟨N, 1, none⟩ = some (.int .i64 kind) ∧ V.cell? ⟨N, 2, none⟩ = some (.int .i64 mode) ∧ V.cell? ⟨N, 3, none⟩ = some (.int .i64 time) ∧ V.cell? ⟨N, 4, none⟩ = some (.int .i64 (size : Int)) ∧ V.cell? ⟨N, 5, none⟩ = some (.string link) ∧ V.cell? ⟨N, 6, none⟩ = some (.slice ca chunks.length cc) ∧ V.cell? ⟨N, 7, none⟩ = some (.string nname) ∧ V.cell? ⟨N, 8, none⟩ = some (.int .i64 0) ∧ V.cell? ⟨N, 9, none⟩ = some (.int .i64 (nsize : Int))) ∧ V.cell? ⟨b, o + k0 * 10, none⟩ = some (.string pn)) [(true, 0), (false, 1), (true, 2), (true, 3), (true, 4), (true, 5), (true, 6), (true, 7), (true, 8), (true, 9), (true, 10), (true, 11), (true, 12), (true, 13), (true, 14), (true, 15), (true, 16), (true, 17)] (by kernel_rfl) (by kernel_rfl) (by kernel_rfl) (by kernel_rfl) (by rw [hVD]; exact HCP.out _ HDR.out) ?_
      rw [hVD]
      clear hVD
      iterate 1 (refine Kit.hplan_head (by rfl) (by first | exact .inr ⟨by rfl, rfl⟩ | exact .inl ⟨by rfl, fun w' hS => by (dsimp only at hS); go_simp; (try with_reducible rfl)⟩) ?_; (try simp only [Act.put, List.setIfInBounds_toArray, List.set_cons_zero, List.set_cons_succ]))
      refine Kit.hplan_op (by rfl) (by rfl) fun K hK => ?_
      go_simp
      go_at_call 163
      refine (HVI.out _ HDR.out).mono ?_
      rintro e W2 ⟨rfl, hb2⟩
      have H2 : Hid (Below (N + 1) W W2) := Lib.hid (HDR.out.trans (hb2.mono (by have := HDR.out.size; have := HWS.out; omega)))
      clear hb2
      refine hK _ _ (HCP.out _ H2.out) ?_
      clear hK K
      iterate 16 (refine Kit.hplan_head (by rfl) (by first | exact .inr ⟨by rfl, rfl⟩ | exact .inl ⟨by rfl, fun w' hS => by (dsimp only at hS); go_simp; (try with_reducible rfl)⟩) ?_; (try simp only [Act.put, List.setIfInBounds_toArray, List.set_cons_zero, List.set_cons_succ]))
      refine Kit.hplan_done ?_
      (try simp only [Act.put, List.setIfInBounds_toArray, List.set_cons_zero, List.set_cons_succ])
      (try go_wp2_with fail)
      go_roundw
      case rel => exact ⟨k + 1, by omega, by go_num, Lib.hid (HBW.out _ H2.out)⟩
      case measure => simp [intOf]; omega
end Go.Proofs.YtmcbnhkcjhlbaaaGreatDoor.Tp
end
section
namespace Go.Proofs.YtmcbnhkcjhlbaaaGreatDoor.Tp
open Go.RowKit
open Kit (Chg)
open Go.Proofs.YtmcbnhkcjhlbaaaGreatDoor.One

def No5 (w : World) (B : Nat) (X : Nat → Prop) : Prop := ∀ q, X q → q < B ∨ ∀ cur f, w.heap[q]? ≠ some (.cells cur 5 f)
theorem No5.chg {w w' : World} {B : Nat} {X : Nat → Prop} (h : No5 w B X) (hX : ∀ q, X q → q < w.heap.size) (hc : Chg (NotX X) w w') : No5 w' B X := fun q hq => by
  rcases h q hq with h1 | h1
  · exact .inl h1
  · exact .inr (fun cur f e => h1 cur f (by rw [← hc.other q (hX q hq) (fun _ hn => hn hq)]; exact e))
theorem own_notX {w w' : World} {X : Nat → Prop} {B : Nat} (hX : ∀ q, X q → q < w.heap.size) (h5 : No5 w B X) {v v' : Value} {n : Nat} {xs : List Value} (hv : ∀ q, v.ownBlock = some q → ¬ X q) (ho : w'.ownsRow B 5 1 v' n xs) (hg : w.grownBy w' v.ownBlock) : ∀ q, v'.ownBlock = some q → ¬ X q := fun q e hq => by
  rcases ho.2 with ⟨e2, _⟩ | ⟨g, cap, cur, e2, hb, h2, _⟩
  · rw [e2] at e; cases e
  · rw [e2] at e
    have : g = q := by simpa [Value.ownBlock] using e
    subst this
    have h3 := hg.block g (hX g hq) (fun e3 => hv g e3.symm hq)
    rw [h3] at h2
    rcases h5 g hq with h4 | h4
    · omega
    · exact h4 _ _ h2
section
variable {a : Act} {ops : Array Oper} {o : Oper} {rest : List Oper} {Q : Exit → Act → World → Prop}
theorem app_txt_g {w0 : World} (hgd : o.guard = none) (s x : Operand) (ho : o.op = .call { callee := .builtin .append, args := #[s, x], argTypes := #[52, 9] })
    (base : Nat) (v : Value) (L : Nat) (cur : List Nat) (hs : a.eval s = v) (hown : w0.ownsRow base 5 1 v L (bvals cur)) (hb : base ≤ w0.heap.size) (hL : L ≤ 1000000000000)
    (str : ByteArray) (m : Nat) (hm : str.size = m) (hm2 : m ≤ 1000000000000) (hx : a.eval x = .string str)
    (h : ∀ v' w', w'.ownsRow base 5 1 v' (L + m) (bvals (cur ++ nb str)) → w0.grownBy w' v.ownBlock → wpList Tryz.prog ops Q rest (a.put o.dst v') w') : wpList Tryz.prog ops Q (o :: rest) a w0 := by
  obtain ⟨i0, hi, hz0, hz1, hz2⟩ := info_parts Tryz.info5
  subst hm
  refine wpList_append_str hgd s x 52 9 ho base 5 i0 Tryz.underlying52 Tryz.underlying9 hi hz0 hz1 hz2 v L (bvals cur) hs hown str hx (by unfold maxLen; omega) (by omega) hb ?_
  intro v' w4 hown4 hgr4
  exact h v' w4 (by rw [bvals_append]; exact hown4) hgr4
end
set_option maxRecDepth 100000 in
set_option maxHeartbeats 1000000 in
theorem wrSum_x (g B : Nat) (X : Nat → Prop) (bs : List Nat) (s : ByteArray) (hs : s.size = 32) (hl : bs.length ≤ 100000) (w : World) (h : WrX w g B X bs) (h5 : No5 w B X) :
    Calls Tryz.prog 165 #[.pointer (some ⟨g, 0, none⟩), .string s] w fun e w' => e = .returned (.tuple #[]) ∧ WrX w' g B X (bs ++ nb s) ∧ Chg (NotX X) w w' := by
  obtain ⟨hgB, hlt, hgX, hXX, v0, L0, hL, hg, ho, hb8, hv0⟩ := h
  have HG := Lib.hid hg
  have HO := Lib.hid ho
  have HLT : Hid (B ≤ w.heap.size) := Lib.hid hlt
  have HGB := Lib.hid hgB
  have HGX := Lib.hid hgX
  have HXX := Lib.hid hXX
  have HV0 := Lib.hid hv0
  have HN5 := Lib.hid h5
  have HS := Lib.hid hs
  have HL0 : Hid (L0 ≤ 100000) := Lib.hid (by omega)
  have HL := Lib.hid hL
  have HB8 := Lib.hid hb8
  have hne : (((s.size : Nat) : Int) != 32) = false := by rw [hs]; rfl
  obtain ⟨c0, c1, cf⟩ := wr_cells hg
  clear hg ho hL hlt hgB hb8 hl hs hgX hXX hv0 h5
  go_enter Tryz.func165, Tryz.ntmps165
  go_wp2_with (first
    | (at_builtin
       refine app_txt_g rfl _ _ rfl B _ L0 bs (by rfl) HO.out HLT.out (by have := HL0.out; omega) s 32 HS.out (by decide) (by rfl) ?_
       intro v3 w3 ho3 h3
       have HX3 := Lib.hid (own_notX HXX.out HN5.out HV0.out ho3 h3)
       have HC3 : Hid (Chg (NotX X) w w3) := Lib.hid (NotX.own h3 HV0.out)
       have HCG : Hid (Chg (fun q _ => B ≤ q) w w3) := Lib.hid (Chg.of_grown h3 (fun q _ e => (HO.out.lt q e).1))
       obtain ⟨a3, cp3, rfl, _, _, _, _, _⟩ := own_bytes ho3 (app_lt HB8.out (nb_lt s)) (by rw [List.length_append, HL.out, nb_length, HS.out]; have := HL0.out; unfold maxLen; omega)
       have HG3 := Lib.hid ((HCG.out.other g (Array.getElem?_eq_some_iff.1 HG.out).1 (fun _ e => by have := HGB.out; omega)).trans HG.out)
       have HO3 := Lib.hid ho3
       clear c0 c1 cf
       obtain ⟨c0, c1, cf⟩ := wr_cells HG3.out
       clear ho3 h3))
  go_end0
  refine ⟨rfl, ⟨HGB.out, by have := HC3.out.size; have := HLT.out; simp [World.setCell]; omega, HGX.out, fun q hq => by have := HXX.out q hq; have := HC3.out.size; simp [World.setCell]; omega, _, _, by rw [List.length_append, HL.out, nb_length, HS.out], heap_setCell_same w3 g 0 _ _ _ HG3.out, ownsRow_keepM HO3.out (Chg.setCell1 (M := fun q _ => q = g) w3 g 0 _ rfl) (fun q hq i e => by have := (HO3.out.lt q hq).1; have := HGB.out; omega), app_lt HB8.out (nb_lt s), HX3.out⟩, ?_⟩
  exact HC3.out.setCell _ HGX.out
set_option maxRecDepth 100000 in
set_option maxHeartbeats 1000000 in
theorem wrText_x (g B : Nat) (X : Nat → Prop) (bs : List Nat) (s : ByteArray) (L : Nat) (hLe : s.size = L) (hl : bs.length ≤ 100000) (hl2 : L ≤ 100000) (w : World) (h : WrX w g B X bs) (h5 : No5 w B X) :
    Calls Tryz.prog 122 #[.pointer (some ⟨g, 0, none⟩), .string s] w fun e w' => e = .returned (.tuple #[]) ∧ WrX w' g B X (bs ++ (num L ++ nb s)) ∧ Chg (NotX X) w w' := by
  obtain ⟨hgB, hlt, hgX, hXX, v0, L0, hL, hg, ho, hb8, hv0⟩ := h
  subst hL
  have HG := Lib.hid hg
  have hex := extend_x B (fun q => X q ∨ q = g) v0 bs L (by omega) hl w ho hlt (fun q hq => by
    rcases hq with hq | hq
    · exact hXX q hq
    · rw [hq]; omega) (fun q e hq => by
    rcases hq with hq | hq
    · exact hv0 q e hq
    · have := (ho.lt q e).1; omega)
  rw [← hLe] at hex
  have HX := Lib.hid hex
  have HLT := Lib.hid hlt
  have HGB := Lib.hid hgB
  have HGX := Lib.hid hgX
  have HXX := Lib.hid hXX
  have HN5 := Lib.hid h5
  have HLE := Lib.hid hLe
  have HLN : Hid ((bs ++ num s.size).length ≤ 1000000) := Lib.hid (by rw [List.length_append]; have := num_len10 (n := s.size) (by omega); omega)
  have HB8 : Hid (∀ x ∈ bs ++ num s.size, x < 256) := Lib.hid (app_lt hb8 (num_lt _))
  have HS2 : Hid (s.size ≤ 100000) := Lib.hid (by omega)
  obtain ⟨cs, hcs⟩ := ex_eq (bs ++ num s.size)
  rw [hcs] at HX HLN HB8
  have HCS := Lib.hid hcs
  clear hcs
  obtain ⟨c0, c1, cf⟩ := wr_cells hg
  have hwu : IntKind.u64.wrap (s.size : Int) = (s.size : Int) := by rw [IntKind.wrap_u64]; omega
  clear hg ho hlt hgB hb8 hl hgX hXX hv0 h5 hex hl2 hLe
  go_enter Tryz.func122, Tryz.ntmps122
  go_wp2_with (first
    | (go_at_call 164
       (refine HX.out.mono ?_)
       rintro e w2 ⟨v2, rfl, ho2, hx2, h2⟩
       obtain ⟨a2, cp2, rfl, _, _, _, _, _⟩ := own_bytes ho2 HB8.out (by have := HLN.out; unfold maxLen; omega)
       have HG2 := Lib.hid ((h2.other g (Array.getElem?_eq_some_iff.1 HG.out).1 (fun i hm => hm (.inr rfl))).trans HG.out)
       have HO2 := Lib.hid ho2
       have HX2 := Lib.hid hx2
       have H2 := Lib.hid h2
       have HZ2 : Hid (B ≤ w2.heap.size) := Lib.hid (by have := h2.size; have := HLT.out; omega)
       clear c0 c1 cf
       obtain ⟨c0, c1, cf⟩ := wr_cells HG2.out
       clear ho2 hx2 h2)
    | (at_builtin
       refine app_txt_g rfl _ _ rfl B _ cs.length cs (by rfl) HO2.out HZ2.out (by have := HLN.out; omega) s s.size rfl (by have := HS2.out; omega) (by rfl) ?_
       intro v3 w3 ho3 h3
       have HC2 : Hid (Chg (NotX X) w w2) := Lib.hid (H2.out.mono (fun q i _ h hq => h (.inl hq)))
       have HX3 := Lib.hid (own_notX (fun q hq => Nat.lt_of_lt_of_le (HXX.out q hq) H2.out.size) (HN5.out.chg HXX.out HC2.out) (fun q e hq => HX2.out q e (.inl hq)) ho3 h3)
       have HC3 : Hid (Chg (NotX X) w w3) := Lib.hid (HC2.out.trans (NotX.own h3 (fun q e hq => HX2.out q e (.inl hq))))
       have HCG : Hid (Chg (fun q _ => B ≤ q) w2 w3) := Lib.hid (Chg.of_grown h3 (fun q _ e => (HO2.out.lt q e).1))
       obtain ⟨a3, cp3, rfl, _, _, _, _, _⟩ := own_bytes ho3 (app_lt HB8.out (nb_lt s)) (by rw [List.length_append, nb_length]; have := HLN.out; have := HS2.out; unfold maxLen; omega)
       have HG3 := Lib.hid ((HCG.out.other g (Array.getElem?_eq_some_iff.1 HG2.out).1 (fun _ e => by have := HGB.out; omega)).trans HG2.out)
       have HO3 := Lib.hid ho3
       clear c0 c1 cf
       obtain ⟨c0, c1, cf⟩ := wr_cells HG3.out
       clear ho3 h3))
  go_end0
  rw [← List.append_assoc, show num L = num s.size by rw [HLE.out], HCS.out]
  refine ⟨rfl, ⟨HGB.out, by have := HC3.out.size; have := HLT.out; simp [World.setCell]; omega, HGX.out, fun q hq => by have := HXX.out q hq; have := HC3.out.size; simp [World.setCell]; omega, _, _, by rw [List.length_append, nb_length], heap_setCell_same w3 g 0 _ _ _ HG3.out, ownsRow_keepM HO3.out (Chg.setCell1 (M := fun q _ => q = g) w3 g 0 _ rfl) (fun q hq i e => by have := (HO3.out.lt q hq).1; have := HGB.out; omega), app_lt HB8.out (nb_lt s), HX3.out⟩, ?_⟩
  exact HC3.out.setCell _ HGX.out
set_option maxRecDepth 100000 in
set_option maxHeartbeats 1000000 in
theorem wrCount_x (g B : Nat) (X : Nat → Prop) (bs : List Nat) (n : Nat) (hn : n < 9223372036854775808) (hl : bs.length ≤ 100000) (w : World) (h : WrX w g B X bs) :
    Calls Tryz.prog 121 #[.pointer (some ⟨g, 0, none⟩), .int .i64 (n : Int)] w fun e w' => e = .returned (.tuple #[]) ∧ WrX w' g B X (bs ++ num n) ∧ Chg (NotX X) w w' := by
  have HU := Lib.hid (wrUint_x g B X bs n (by omega) hl w h)
  obtain ⟨wv, c0, c1, cf⟩ : ∃ v : Value, w.cell? ⟨g, 0, none⟩ = some v ∧ w.cell? ⟨g, 1, none⟩ = some (.int .i64 0) ∧ ∀ i, w.frozen? ⟨g, i, none⟩ = false := by
    obtain ⟨_, _, _, _, v0, L0, _, hg, _⟩ := h
    exact ⟨v0, wr_cells hg⟩
  have hn0 : ¬ (n : Int) < 0 := by omega
  have hwu : IntKind.u64.wrap (n : Int) = (n : Int) := by rw [IntKind.wrap_u64]; omega
  clear hl hn h
  go_enter Tryz.func121, Tryz.ntmps121
  go_wp2_with (first
    | (go_at_call 123
       (refine HU.out.mono ?_)
       rintro e w2 ⟨rfl, h2, h3⟩
       have H2 := Lib.hid h2
       have H3 := Lib.hid h3
       clear h2 h3))
  go_end0
  exact ⟨rfl, H2.out, H3.out⟩
end Go.Proofs.YtmcbnhkcjhlbaaaGreatDoor.Tp
end
section
namespace Go.Proofs.YtmcbnhkcjhlbaaaGreatDoor.Tp
open Go.RowKit
open Kit (Chg)
open Go.Proofs.YtmcbnhkcjhlbaaaGreatDoor.One

structure Tw (g B : Nat) (w w' : World) : Prop where
  os : w'.os = w.os
  tape : w'.tape = w.tape
  output : w'.output = w.output
  size : w.heap.size ≤ w'.heap.size
  low : ∀ q, q < B → q < w.heap.size → q ≠ g → w'.heap[q]? = w.heap[q]?
  row : ∀ q c T f, w.heap[q]? = some (.cells c T f) → T ≠ 5 → q ≠ g → w'.heap[q]? = some (.cells c T f)
theorem Tw.refl (g B : Nat) (w : World) : Tw g B w w := ⟨rfl, rfl, rfl, Nat.le_refl _, fun _ _ _ _ => rfl, fun _ _ _ _ h _ _ => h⟩
theorem Tw.trans {g B : Nat} {w w1 w2 : World} (h : Tw g B w w1) (h2 : Tw g B w1 w2) : Tw g B w w2 :=
  ⟨h2.os.trans h.os, h2.tape.trans h.tape, h2.output.trans h.output, Nat.le_trans h.size h2.size, fun q h3 h4 h5 => (h2.low q h3 (Nat.lt_of_lt_of_le h4 h.size) h5).trans (h.low q h3 h4 h5), fun q c T f h3 h4 h5 => h2.row q c T f (h.row q c T f h3 h4 h5) h4 h5⟩
theorem Tw.of_below {g B : Nat} {w w' : World} (hb : Below w.heap.size w w') : Tw g B w w' :=
  ⟨hb.os, hb.tape, hb.output, hb.size, fun q _ h _ => hb.block q h, fun q c T f h _ _ => (hb.block q (Array.getElem?_eq_some_iff.1 h).1).trans h⟩
theorem Tw.below {g B N : Nat} {w w' : World} (h : Tw g B w w') (h1 : N ≤ g) (h2 : N ≤ B) (h3 : N ≤ w.heap.size) : Below N w w' :=
  ⟨h.os, h.tape, h.output, h.size, fun q hq => h.low q (by omega) (by omega) (by omega)⟩
def XX (w : World) (g B : Nat) (q : Nat) : Prop := q < w.heap.size ∧ q ≠ g ∧ (q < B ∨ ∀ cur f, w.heap[q]? ≠ some (.cells cur 5 f))
theorem Tw.of_chg {g B : Nat} {w w' : World} (hc : Chg (NotX (XX w g B)) w w') : Tw g B w w' :=
  ⟨hc.os, hc.tape, hc.output, hc.size, fun q h1 h2 h3 => hc.other q h2 (fun _ hn => hn ⟨h2, h3, .inl h1⟩), fun q c T f h1 h2 h3 => (hc.other q (Array.getElem?_eq_some_iff.1 h1).1 (fun _ hn => hn ⟨(Array.getElem?_eq_some_iff.1 h1).1, h3, .inr (fun cur f2 e => by rw [e] at h1; cases h1; exact h2 rfl)⟩)).trans h1⟩
theorem WrAt.xx {w : World} {g B : Nat} {bs : List Nat} (h : WrAt w g B bs) : WrX w g B (XX w g B) bs ∧ No5 w B (XX w g B) := by
  obtain ⟨h1, h2, v, L, h3, h4, h5, h6⟩ := h
  refine ⟨⟨h1, h2, fun hx => hx.2.1 rfl, fun q hq => hq.1, v, L, h3, h4, h5, h6, fun q e hx => ?_⟩, fun q hq => hq.2.2⟩
  rcases h5.2 with ⟨e2, _⟩ | ⟨k, cap, cur, e2, hb, hc, _⟩
  · rw [e2] at e; cases e
  · rw [e2] at e
    have : k = q := by simpa [Value.ownBlock] using e
    subst this
    rcases hx.2.2 with h7 | h7
    · omega
    · exact h7 _ _ hc
theorem wrUint_t (g B : Nat) (bs : List Nat) (n : Nat) (hn : n < 18446744073709551616) (hl : bs.length ≤ 100000) (w : World) (h : WrAt w g B bs) :
    Calls Tryz.prog 123 #[.pointer (some ⟨g, 0, none⟩), .int .u64 (n : Int)] w fun e w' => e = .returned (.tuple #[]) ∧ WrAt w' g B (bs ++ num n) ∧ Tw g B w w' :=
  (wrUint_x g B _ bs n hn hl w (WrAt.xx h).1).mono fun _ _ ⟨h1, h2, h3⟩ => ⟨h1, h2.at, Tw.of_chg h3⟩
theorem wrCount_t (g B : Nat) (bs : List Nat) (n : Nat) (hn : n < 9223372036854775808) (hl : bs.length ≤ 100000) (w : World) (h : WrAt w g B bs) :
    Calls Tryz.prog 121 #[.pointer (some ⟨g, 0, none⟩), .int .i64 (n : Int)] w fun e w' => e = .returned (.tuple #[]) ∧ WrAt w' g B (bs ++ num n) ∧ Tw g B w w' :=
  (wrCount_x g B _ bs n hn hl w (WrAt.xx h).1).mono fun _ _ ⟨h1, h2, h3⟩ => ⟨h1, h2.at, Tw.of_chg h3⟩
theorem wrSum_t (g B : Nat) (bs : List Nat) (s : ByteArray) (hs : s.size = 32) (hl : bs.length ≤ 100000) (w : World) (h : WrAt w g B bs) :
    Calls Tryz.prog 165 #[.pointer (some ⟨g, 0, none⟩), .string s] w fun e w' => e = .returned (.tuple #[]) ∧ WrAt w' g B (bs ++ nb s) ∧ Tw g B w w' :=
  (wrSum_x g B _ bs s hs hl w (WrAt.xx h).1 (WrAt.xx h).2).mono fun _ _ ⟨h1, h2, h3⟩ => ⟨h1, h2.at, Tw.of_chg h3⟩
theorem wrText_t (g B : Nat) (bs : List Nat) (s : ByteArray) (L : Nat) (hLe : s.size = L) (hl : bs.length ≤ 100000) (hl2 : L ≤ 100000) (w : World) (h : WrAt w g B bs) :
    Calls Tryz.prog 122 #[.pointer (some ⟨g, 0, none⟩), .string s] w fun e w' => e = .returned (.tuple #[]) ∧ WrAt w' g B (bs ++ (num L ++ nb s)) ∧ Tw g B w w' :=
  (wrText_x g B _ bs s L hLe hl hl2 w (WrAt.xx h).1 (WrAt.xx h).2).mono fun _ _ ⟨h1, h2, h3⟩ => ⟨h1, h2.at, Tw.of_chg h3⟩
def encR (r : RefP) : List Nat := nb r.name ++ (num 0 ++ num r.size)
set_option maxRecDepth 100000 in
set_option maxHeartbeats 4000000 in
theorem writeRef_ok (g B : Nat) (bs : List Nat) (r : RefP) (hr : r.ok) (hl : bs.length ≤ 50000) (w : World) (h : WrAt w g B bs) : Calls Tryz.prog 124 #[.pointer (some ⟨g, 0, none⟩), .agg r.row] w fun e w' => e = .returned (.tuple #[]) ∧ WrAt w' g B (bs ++ encR r) ∧ Tw g B w w' := by
  unfold encR
  have HR := Lib.hid hr
  have HW := Lib.hid h
  have HL := Lib.hid hl
  have hg : g < w.heap.size := by
    obtain ⟨_, _, v, L, _, h4, _⟩ := h
    exact (Array.getElem?_eq_some_iff.1 h4).1
  have HGS := Lib.hid hg
  obtain ⟨name, size⟩ := r
  unfold RefP.row
  dsimp only
  have hw1 : IntKind.u64.wrap (size : Int) = (size : Int) := by have := hr.s; dsimp only at this; rw [IntKind.wrap_u64]; omega
  clear hr h hl hg
  go_enter Tryz.func124, Tryz.ntmps124
  go_upto_region 1 with fail
  refine wp_over (fun W => Hid (W.heap[w.heap.size]? = some (.cells (RefP.row ⟨name, size⟩) 45 (0, 0))) ∧ Hid (Below w.heap.size w W)) ⟨Lib.hid (heap_alloc_new _ _), Lib.hid ((Below.refl _ _).alloc (Nat.le_refl _) _)⟩ ?_
  rintro W ⟨HG, HB⟩
  obtain ⟨N, hN⟩ := ex_eq w.heap.size
  have HNG : Hid (N ≠ g) := Lib.hid (by have := HGS.out; omega)
  rw [hN] at HG ⊢
  clear hN
  have HW0 := Lib.hid (HW.out.later HB.out)
  have HT0 : Hid (Tw g B w W) := Lib.hid (Tw.of_below HB.out)
  have HS := Lib.hid (wrSum_t g B bs name HR.out.n (by have := HL.out; omega) W HW0.out)
  obtain ⟨c0, c1, c2⟩ := row3R HG.out
  dsimp only at c0 c1 c2
  go_upto_region 2 with (first
    | (go_at_call 165
       (with_reducible refine HS.out.mono ?_)
       rintro e W1 ⟨rfl, h1, h2⟩
       have HW1 := Lib.hid h1
       have HT1 := Lib.hid h2
       clear h1 h2 c0 c1 c2))
  have HG1 := Lib.hid (HT1.out.row _ _ _ _ HG.out (by decide) HNG.out)
  have HU : Hid (Calls Tryz.prog 123 #[.pointer (some ⟨g, 0, none⟩), .int .u64 0] W1 fun e w' => e = .returned (.tuple #[]) ∧ WrAt w' g B (bs ++ nb name ++ num 0) ∧ Tw g B W1 w') := Lib.hid (wrUint_t g B (bs ++ nb name) 0 (by decide) (by rw [List.length_append, nb_length]; have := HL.out; have := HR.out.n; dsimp only at this; omega) W1 HW1.out)
  obtain ⟨c0, c1, c2⟩ := row3R HG1.out
  dsimp only at c0 c1 c2
  go_upto_region 3 with (first
    | (go_at_call 123
       (with_reducible refine HU.out.mono ?_)
       rintro e W2 ⟨rfl, h1, h2⟩
       have HW2 := Lib.hid h1
       have HT2 := Lib.hid h2
       clear h1 h2 c0 c1 c2))
  have HG2 := Lib.hid (HT2.out.row _ _ _ _ HG1.out (by decide) HNG.out)
  have HU2 := Lib.hid (wrUint_t g B (bs ++ nb name ++ num 0) size (by have := HR.out.s; dsimp only at this; omega) (by rw [List.length_append, List.length_append, nb_length]; have := HL.out; have := HR.out.n; have := num_len10 (n := 0) (by decide); dsimp only at *; omega) W2 HW2.out)
  obtain ⟨c0, c1, c2⟩ := row3R HG2.out
  dsimp only at c0 c1 c2
  go_wp2_with (first
    | (go_at_call 123
       (with_reducible refine HU2.out.mono ?_)
       rintro e W3 ⟨rfl, h1, h2⟩
       have HW3 := Lib.hid h1
       have HT3 := Lib.hid h2
       clear h1 h2 c0 c1 c2))
  go_end0
  refine ⟨rfl, ?_, ((HT0.out.trans HT1.out).trans HT2.out).trans HT3.out⟩
  have h9 := HW3.out
  rw [List.append_assoc, List.append_assoc] at h9
  exact h9
end Go.Proofs.YtmcbnhkcjhlbaaaGreatDoor.Tp
end
