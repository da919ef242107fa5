/- The specification's Split. -/
import Derived.Test.YtfnhcjcahcacnaaDoorRefC
namespace Go.Proofs.YtfnhcjcahcacnaaDoor
open Go.RowKit
open Roll (u)
open Kit (Chg)
open Chk

def Rising (zs : List Nat) : Prop := ∀ i, i < zs.length → (0 :: zs).getD i 0 < zs.getD i 0
theorem getD_last0 (zs : List Nat) : (0 :: zs).getD zs.length 0 = (0 :: zs).getLast (by simp) := by
  rw [List.getLast_eq_getElem, List.getD_eq_getElem?_getD]
  simp
theorem Rising.nil : Rising [] := fun i hi => by simp at hi
theorem Rising.snoc {zs : List Nat} {x : Nat} (h : Rising zs) (hx : (0 :: zs).getLast (by simp) < x) : Rising (zs ++ [x]) := by
  intro i hi
  rw [List.length_append, List.length_singleton] at hi
  rw [← List.cons_append, List.getD_eq_getElem?_getD, List.getElem?_append_left (by simp; omega), ← List.getD_eq_getElem?_getD]
  by_cases hlt : i < zs.length
  · rw [List.getD_eq_getElem?_getD (l := zs ++ [x]), List.getElem?_append_left hlt, ← List.getD_eq_getElem?_getD]
    exact h i hlt
  · have e : i = zs.length := by omega
    subst e
    rw [getD_last0, List.getD_eq_getElem?_getD (l := zs ++ [x]), List.getElem?_append_right (Nat.le_refl _)]
    simpa using hx
theorem cutsS_rising (c : Cut) (ds : List Nat) : ∀ k, Rising (cutsS c ds k)
  | 0 => Rising.nil
  | k + 1 => by
    have ih := cutsS_rising c ds k
    cases hc : cutS c ds k with
    | true => rw [cutsS_yes hc]; exact ih.snoc (by rw [cutsS_getLast]; have := startS_le c ds k; omega)
    | false => rw [cutsS_no hc]; exact ih
theorem cuts_rising (c : Cut) (ds : List Nat) : Rising (cuts c ds) := by
  unfold cuts
  split
  · rename_i h
    exact (cutsS_rising c ds _).snoc (by rw [cutsS_getLast]; exact h)
  · rw [List.append_nil]; exact cutsS_rising c ds _
theorem getLast_take (C : List Nat) (k : Nat) (hk : k ≤ C.length) : (0 :: C.take k).getLast (by simp) = (0 :: C).getD k 0 := by
  rw [← getD_last0]
  have e : (C.take k).length = k := by rw [List.length_take]; omega
  rw [e, ← List.take_succ_cons, List.getD_eq_getElem?_getD, List.getD_eq_getElem?_getD, List.getElem?_take_of_lt (by omega)]
theorem pieces_step (ds C : List Nat) (k : Nat) (hk : k < C.length) : pieces ds 0 (C.take (k + 1)) = pieces ds 0 (C.take k) ++ [(ds.take (C.getD k 0)).drop ((0 :: C).getD k 0)] := by
  rw [List.take_succ_eq_append_getElem hk, pieces_snoc, getLast_take C k (by omega)]
  rw [show C[k] = C.getD k 0 by simp [List.getD, hk]]

def RefSRel (w1 : World) (N : Nat) (ds C : List Nat) (k : Nat) (v at' : Value) (wr : World) : Prop :=
  at' = .int .i64 (((0 :: C).getD k 0 : Nat) : Int) ∧ ∃ rows, rows.length = k ∧ wr.ownsRow (N + 1) 28 1 v rows.length (rows.map slV) ∧ ChL wr rows (pieces ds 0 (C.take k)) ∧ Chg (outM N w1.heap.size) w1 wr ∧ (∀ g, v.ownBlock = some g → outM N w1.heap.size g 0)

set_option maxRecDepth 100000 in
set_option maxHeartbeats 1000000 in
theorem refSplit_any (c : Cut) (hk : c.Ok) (a : Option Addr) (cap : Nat) (ds : List Nat) (hl : ds.length ≤ 100000) (hcap : ds.length ≤ cap) (hnil : a = none → cap = 0) (w : World) (h : BytesAt w a ds) :
    Calls Tryd.prog 43 #[.agg #[.int .i64 c.mn, .int .i64 c.mx, .int .i64 c.win, .int .i64 c.bits, .int .u64 (u c.seed)], .slice a ds.length cap] w fun e w' =>
      ∃ v rows, e = .returned v ∧ w'.ownsRow w.heap.size 28 1 v rows.length (rows.map slV) ∧ ChL w' rows (chunks c ds) ∧ Below w.heap.size w w' := by
  have HH := Lib.hid h
  have HK := Lib.hid hk
  have HNIL := Lib.hid hnil
  clear h hk hnil
  obtain ⟨i0, hi, hz0, hz1, hz2⟩ := info_parts Tryd.info5
  have HI := Lib.hid hi
  have HZ0 := Lib.hid hz0
  have HZ1 := Lib.hid hz1
  have HZ2 := Lib.hid hz2
  clear hi hz0 hz1 hz2
  obtain ⟨j0, hi, hz0, hz1, hz2⟩ := info_parts Tryd.info28
  have GI := Lib.hid hi
  have GZ0 := Lib.hid hz0
  have GZ1 := Lib.hid hz1
  have GZ2 := Lib.hid hz2
  clear hi hz0 hz1 hz2
  go_enter Tryd.func43, Tryd.ntmps43
  go_wp2_with fail
  have I0 := Lib.hid ((Inv.new w c.mn c.mx c.win c.bits c.seed).alloc (.cells #[] 28))
  refine (refCuts_any c HK.out a cap ds (by omega) hcap _ (HH.out.later I0.out.b)).mono ?_
  rintro e w1 ⟨v1, rfl, ho1, hb1⟩
  have I1 := Lib.hid (I0.out.step hb1)
  obtain ⟨_, aC, capC, rfl, _, _, hiC, _⟩ := ints_of_own ho1
  have HIC := Lib.hid hiC
  have hs1 : w.heap.size + 2 ≤ w1.heap.size := by have := hb1.size; simp at this; omega
  have HBC : Hid (∀ g, aC = some ⟨g, 0, none⟩ → w.heap.size + 2 ≤ g ∧ g < w1.heap.size) := fun g e => by
    have := ho1.lt g (by rw [e]; rfl)
    simpa using this
  have HOUT1 : Hid (w1.ownsRow (w.heap.size + 1) 28 1 (.slice (some ⟨w.heap.size + 1, 0, none⟩) 0 0) 0 []) := by
    have h0 := World.ownsRow_made (base := w.heap.size + 1) (e := 28) (size := 1) (w.alloc (.cells #[.int .i64 c.mn, .int .i64 c.mx, .int .i64 c.win, .int .i64 c.bits, .int .u64 (u c.seed)] 48)) #[] 0 (by simp) (Nat.zero_le _) rfl
    have h1 := ownsRow_keep h0 (Chg.of_below (M := fun _ _ => False) hb1) (fun g hg i h => h)
    have h2 : w1.ownsRow (w.heap.size + 1) 28 1 (.slice (some ⟨w.heap.size + 1, 0, none⟩) 0 0) 0 [] := by simpa using h1
    exact h2
  have hcl := cuts_length c ds
  have HRI := Lib.hid (cuts_rising c ds)
  have HME := Lib.hid (cuts_mem c ds)
  have HCP := Lib.hid (chunks_pieces c ds)
  have HFORM : Hid (0 < (cuts c ds).length → ∃ g, aC = some ⟨g, 0, none⟩ ∧ w.heap.size + 2 ≤ g ∧ g < w1.heap.size) := fun h0 => by
    obtain ⟨k', hk'⟩ : ∃ k', (cuts c ds).length = k' + 1 := ⟨(cuts c ds).length - 1, by omega⟩
    have ho2 := ho1
    rw [hk'] at ho2
    obtain ⟨g, cp, hv⟩ := ownsRow_succ ho2
    simp only [Value.slice.injEq] at hv
    exact ⟨g, hv.1, HBC.out g hv.1⟩
  clear ho1 hb1 hiC I0 HBC
  go_wp2_with fail
  generalize hC : cuts c ds = C at *
  clear hC
  generalize hN : w.heap.size = N at *
  have HN := Lib.hid hN
  clear hN
  go_loopw [5, 6, 8] (fun v at' i wr => ∃ k : Nat, k ≤ C.length ∧ i = .int .i64 k ∧ RefSRel w1 N ds C k v at' wr) (fun _ _ i _ => C.length - (intOf i).toNat)
  case atStart => exact ⟨0, Nat.zero_le _, rfl, rfl, [], rfl, HOUT1.out, by rw [List.take_zero]; exact ChL.nil _, Chg.refl _ _, fun g hg => by simp [Value.ownBlock] at hg; exact .inl hg.symm⟩
  case round =>
    obtain ⟨k, hk, rfl, rfl, rows, hrk, how, hcl2, hch, hblk⟩ := hrel
    have HW := Lib.hid how
    have HL := Lib.hid hcl2
    have HCH := Lib.hid hch
    have HBK := Lib.hid hblk
    clear how hcl2 hch hblk
    by_cases hlt : k < C.length
    · obtain ⟨gC, rfl, hg1, hg2⟩ := HFORM.out (by omega)
      have HEK : Hid (∀ wq, Chg (outM N w1.heap.size) w1 wq → wq.cell? ⟨gC, k, none⟩ = some (.int .i64 ((C.getD k 0 : Nat) : Int))) := fun wq hq => by
        have hIC := intsAt_chgG HIC.out hq (fun i hm => by rcases hm with h | h <;> omega)
        obtain ⟨b', o', e', hcell⟩ := hIC.some (by omega)
        cases e'
        have h2 := hcell k hlt
        rwa [Nat.zero_add] at h2
      have hri := HRI.out k hlt
      have hxn : C.getD k 0 ≤ ds.length := (HME.out (C.getD k 0) (by rw [List.getD_eq_getElem?_getD, List.getElem?_eq_getElem hlt]; exact List.getElem_mem hlt)).2
      have HPS := Lib.hid (pieces_step ds C k hlt)
      have HD1 : Hid ((0 :: C).getD (k + 1) 0 = C.getD k 0) := List.getD_cons_succ ..
      generalize C.getD k 0 = x at HEK hri hxn HPS HD1
      generalize (0 :: C).getD k 0 = p at hri HPS ⊢
      have hsl := slice_lh a ds.length cap p x (by omega) (by omega)
      have hsz := HCH.out.size
      have hck2 : (wr.alloc (.cells #[] 5)).cell? ⟨gC, k, none⟩ = some (.int .i64 (x : Int)) := HEK.out _ (HCH.out.alloc _)
      have HBW : Hid (Below w.heap.size w wr) := I1.out.b.trans (HCH.out.below (by have := HN.out; omega) (fun g i hg hm => by have := HN.out; rcases hm with h | h <;> omega))
      have hdb := bytesAt_sub (HH.out.later HBW.out) hcap p x
      have hdl : ((ds.take x).drop p).length = x - p := by rw [List.length_drop, List.length_take]; omega
      have HSRC : Hid (SrcAt (wr.alloc (.cells #[] 5)) (subA a p cap) (x - p) (cap - p) 1 (bvals ((ds.take x).drop p))) := by
        have h1 := (hdb.later ((Below.refl wr.heap.size wr).alloc (Nat.le_refl _) (.cells #[] 5))).src (cap - p) (fun h => subA_none HNIL.out h)
        rw [hdl] at h1
        exact h1
      have hd256 := hdb.2.1
      have HDB := Lib.hid hdb
      have HDL := Lib.hid hdl
      have OWN0 := Lib.hid (World.ownsRow_made (base := wr.heap.size) (e := 5) (size := 1) wr #[] 0 (Nat.le_refl _) (Nat.zero_le _) rfl)
      clear hdb hdl
      go_wp2_with (first
        | (at_builtin
           refine wpList_append_src rfl (.tmp 20) (.tmp 27) 28 rfl wr.heap.size 5 i0 (.int .u8 0) 1 1 Tryd.underlying28 HI.out HZ0.out HZ1.out HZ2.out rfl (by decide) _ 0 [] rfl OWN0.out (subA a p cap) (x - p) (cap - p) (bvals ((ds.take x).drop p)) rfl HSRC.out (bvals_one _) (by unfold maxLen; omega) (by omega) (by simp) ?_
           intro v3 w3 hown3 hgr3
           have HO3 := Lib.hid hown3
           have HG3 := Lib.hid hgr3
           clear hown3 hgr3
           obtain ⟨y, hy⟩ : ∃ y, x - p = y + 1 := ⟨x - p - 1, by omega⟩
           have HO3' : Hid (w3.ownsRow wr.heap.size 5 1 v3 (x - p) (bvals ((ds.take x).drop p))) := by have h := HO3.out; rw [List.nil_append, Nat.zero_add] at h; exact h
           obtain ⟨g3, cap3, hv3⟩ := ownsRow_succ (by have h := HO3'.out; rw [hy] at h; exact h)
           rw [← hy] at hv3
           subst hv3
           have hg3 := HO3'.out.lt g3 rfl
           have HC3 : Hid (Chg (fun g _ => wr.heap.size ≤ g) wr w3) := (Chg.alloc1 wr _).trans (Chg.of_grown HG3.out (fun g _ e => by simp [Act.eval, Value.ownBlock] at e; omega))
           have hsz3 := HC3.out.size
           have HW3 := Lib.hid (ownsRow_keepM HW.out HC3.out (fun g hg i hm => by have := (HW.out.lt g hg).2; omega))
           have HL3 := Lib.hid (HL.out.keep (fun g cur f hgc => HC3.out.other g (Array.getElem?_eq_some_iff.1 hgc).1 (fun i hm => by have := (Array.getElem?_eq_some_iff.1 hgc).1; omega)))
           have HCH3 : Hid (Chg (outM N w1.heap.size) w1 w3) := HCH.out.trans (HC3.out.mono fun g i hg hm => absurd hm (by omega))
           clear HO3 HG3 hck2 hy)
        | (at_builtin
           refine wpList_append_own_at _ rfl _ _ 54 rfl (N + 1) 28 j0 (.slice none 0 0) 1 24 Tryd.underlying54 GI.out GZ0.out GZ1.out GZ2.out rfl (by decide) _ _ _ rfl (HW3.out.alloc _) ⟨w3.heap.size, 0, none⟩ 1 1 [.slice (some ⟨g3, 0, none⟩) (x - p) cap3] rfl rfl (cell_one_new _ _ _) (by simp [Value.oneCell']) (by unfold maxLen; omega) (by omega) (by simp; omega) ?_
           intro v4 w4 hown4 hgr4 _ hat4
           have HO4 := Lib.hid hown4
           have HG4 := Lib.hid hgr4
           have HA4 := Lib.hid hat4
           clear hown4 hgr4 hat4
           have HC4 : Hid (Chg (fun g _ => u5.ownBlock = some g ∨ w3.heap.size ≤ g) w3 w4) := (Chg.alloc1 w3 _).trans (Chg.of_grown HG4.out (fun g _ e => .inl e))
           have HCH4 : Hid (Chg (outM N w1.heap.size) w1 w4) := HCH3.out.trans (HC4.out.mono fun g i hg hm => by rcases hm with h | h; exact HBK.out g h; exact .inr (by have := HCH3.out.size; omega))
           have hck4 := HEK.out _ HCH4.out))
      obtain ⟨hlen3, a3, cp3, hv3, hle3, _, hby3, _⟩ := bytes_of_own HO3'.out hd256 (by rw [HDL.out]; unfold maxLen; omega)
      simp only [Value.slice.injEq] at hv3
      obtain ⟨rfl, _, rfl⟩ := hv3
      obtain ⟨cur3, ht3⟩ := row_type HO3'.out (g := g3) rfl
      have hsame : ∀ (g : Nat) (cur : Array Value) (f : Nat × Nat), w3.heap[g]? = some (Obj.cells cur 5 f) → w4.heap[g]? = w3.heap[g]? := fun g cur f hgc => HC4.out.other g (Array.getElem?_eq_some_iff.1 hgc).1 (fun i hm => by
        rcases hm with h | h
        · exact not_row_of HW3.out hgc (by decide) h.symm
        · have := (Array.getElem?_eq_some_iff.1 hgc).1; omega)
      have HL4 : Hid (ChL w4 (rows ++ [(some ⟨g3, 0, none⟩, x - p, cap3)]) (pieces ds 0 (C.take (k + 1)))) := by
        have h1 := (HL3.out.keep hsame).snoc (bytesAt_same hby3 (hsame g3 _ _ ht3)) hle3 ⟨_, _, (hsame g3 _ _ ht3).trans ht3⟩
        rw [HDL.out, ← HPS.out] at h1
        exact h1
      have HW4 : Hid (w4.ownsRow (N + 1) 28 1 v4 (rows ++ [((some ⟨g3, 0, none⟩ : Option Addr), x - p, cap3)]).length ((rows ++ [((some ⟨g3, 0, none⟩ : Option Addr), x - p, cap3)]).map slV)) := by
        show World.ownsRow _ _ _ _ _ _ _
        rw [List.length_append, List.map_append]
        exact HO4.out
      have HB4 : Hid (∀ g, v4.ownBlock = some g → outM N w1.heap.size g 0) := fun g hg => by
        rcases HA4.out with h | h
        · exact HBK.out g (h.symm.trans hg)
        · rw [h] at hg
          have e : w3.heap.size + 1 = g := by simpa using hg
          exact .inr (by have := HCH3.out.size; omega)
      go_roundw
      case rel => exact ⟨k + 1, by omega, by go_num, by rw [HD1.out], _, by simp [hrk], HW4.out, HL4.out, HCH4.out, HB4.out⟩
      case measure => simp [intOf]; omega
    · have e : k = C.length := by omega
      subst e
      go_wp2_with fail
      go_ret
      have HLL := HL.out
      rw [List.take_length, ← HCP.out] at HLL
      exact ⟨_, rows, rfl, by rw [HN.out]; exact ownsRow_base HW.out (by omega), HLL, I1.out.b.trans (HCH.out.below (by have := HN.out; omega) (fun g i hg hm => by have := HN.out; rcases hm with h | h <;> omega))⟩
end Go.Proofs.YtfnhcjcahcacnaaDoor
