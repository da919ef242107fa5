/- The specification's Cuts. -/
import Derived.Test.YtfnhcjcahcacnaaDoorLawsI
namespace Go.Proofs.YtfnhcjcahcacnaaDoor
open Go.RowKit
open Roll (u)
open Kit (Chg)
open Chk

theorem Inv.chg {w W W' : World} {mn mx win bits : Int} {s : BitVec 64} {M : Nat → Nat → Prop} (h : Inv w W mn mx win bits s) (hc : Chg M W W') (hs : w.heap.size + 1 ≤ W.heap.size) (hM : ∀ g i, g ≤ w.heap.size → ¬ M g i) : Inv w W' mn mx win bits s :=
  ⟨h.b.trans (hc.below h.b.size fun g i hg => hM g i (by omega)), h.x.later (hc.below hs fun g i hg => hM g i (by omega)) (Nat.lt_succ_self _), Nat.lt_of_lt_of_le h.lt hc.size⟩

/-- The ends that the reference walks. -/
def endsL (c : Cut) (ds : List Nat) : List Nat := primTo c ds ds.length ++ [ds.length]
theorem endsL_length (c : Cut) (ds : List Nat) : (endsL c ds).length = (primTo c ds ds.length).length + 1 := by simp [endsL]
/-- Where the reference stands ahead of the end number i. -/
def OInv (c : Cut) (ds : List Nat) (i a : Nat) (out : List Nat) : Prop := (i ≤ (primTo c ds ds.length).length ∧ At c ds a out ∧ a = (0 :: primTo c ds ds.length).getD i 0) ∨ (a = ds.length ∧ out = cuts c ds)
/-- .. and on its way there. -/
def JInv (c : Cut) (ds : List Nat) (lo e a : Nat) (out : List Nat) : Prop := (At c ds a out ∧ lo ≤ a ∧ a ≤ e) ∨ (a = ds.length ∧ out = cuts c ds)
theorem gap (c : Cut) (ds : List Nat) (i : Nat) (hi : i < (endsL c ds).length) : (0 :: primTo c ds ds.length).getD i 0 ≤ (endsL c ds).getD i 0 ∧ (endsL c ds).getD i 0 ≤ ds.length ∧ (prim c ds ((endsL c ds).getD i 0) = true ∨ (endsL c ds).getD i 0 = ds.length) ∧
    (∀ p, (0 :: primTo c ds ds.length).getD i 0 < p → p < (endsL c ds).getD i 0 → prim c ds p = false) ∧ (i < (primTo c ds ds.length).length → (0 :: primTo c ds ds.length).getD (i + 1) 0 = (endsL c ds).getD i 0) ∧ (¬ i < (primTo c ds ds.length).length → (endsL c ds).getD i 0 = ds.length) := by
  rw [endsL_length] at hi
  by_cases h : i < (primTo c ds ds.length).length
  · obtain ⟨p, h1, h2, h3, h4, h5, h6⟩ := primTo_at c ds ds.length i h
    have e1 : (endsL c ds).getD i 0 = p := by unfold endsL; rw [List.getD_eq_getElem?_getD, List.getElem?_append_left h, h1]; rfl
    rw [e1, ← h6]
    have hle := lastP_le c ds (p - 1)
    exact ⟨by omega, h3, .inl h4, fun q q1 q2 => lastP_between c ds (p - 1) q q1 (by omega), fun _ => by rw [List.getD_cons_succ, List.getD_eq_getElem?_getD, h1]; rfl, fun hh => absurd h hh⟩
  · have hie : i = (primTo c ds ds.length).length := by omega
    have e1 : (endsL c ds).getD i 0 = ds.length := by unfold endsL; rw [hie, List.getD_eq_getElem?_getD, List.getElem?_append_right (Nat.le_refl _)]; simp
    rw [e1, hie, primTo_last]
    exact ⟨lastP_le _ _ _, Nat.le_refl _, .inr rfl, fun q q1 q2 => lastP_between c ds _ q q1 (by omega), fun hh => absurd hh (by omega), fun _ => rfl⟩
theorem OInv.start (c : Cut) (ds : List Nat) : OInv c ds 0 0 [] := .inl ⟨Nat.zero_le _, At.start c ds, rfl⟩
theorem OInv.go {c : Cut} {ds : List Nat} {i a : Nat} {out : List Nat} (h : OInv c ds i a out) (hi : i < (endsL c ds).length) : JInv c ds ((0 :: primTo c ds ds.length).getD i 0) ((endsL c ds).getD i 0) a out := by
  rcases h with ⟨_, h2, h3⟩ | h
  · exact .inl ⟨h2, by omega, by rw [h3]; exact (gap c ds i hi).1⟩
  · exact .inr h
theorem JInv.round {c : Cut} {ds : List Nat} {i a : Nat} {out : List Nat} (hm : 1 ≤ c.mx) (hi : i < (endsL c ds).length) (h : JInv c ds ((0 :: primTo c ds ds.length).getD i 0) ((endsL c ds).getD i 0) a out) (ha : a < (endsL c ds).getD i 0) :
    JInv c ds ((0 :: primTo c ds ds.length).getD i 0) ((endsL c ds).getD i 0) (min (a + c.mx) ((endsL c ds).getD i 0)) (out ++ [min (a + c.mx) ((endsL c ds).getD i 0)]) ∧ out.length ≤ a := by
  obtain ⟨g1, g2, g3, g4, _, _⟩ := gap c ds i hi
  rcases h with ⟨h1, h2, h3⟩ | ⟨h1, h2⟩
  · refine ⟨?_, by rw [h1.2.2]; exact cutsS_length c ds a⟩
    rcases h1.next hm ha g2 (fun p p1 p2 => g4 p (by omega) p2) g3 with h | ⟨h, h', h''⟩
    · exact .inl ⟨h, by omega, by omega⟩
    · exact .inr ⟨h, h''⟩
  · omega
theorem JInv.done {c : Cut} {ds : List Nat} {i a : Nat} {out : List Nat} (hi : i < (endsL c ds).length) (h : JInv c ds ((0 :: primTo c ds ds.length).getD i 0) ((endsL c ds).getD i 0) a out) (ha : ¬ a < (endsL c ds).getD i 0) : OInv c ds (i + 1) a out := by
  obtain ⟨g1, g2, g3, g4, g5, g6⟩ := gap c ds i hi
  rcases h with ⟨h1, h2, h3⟩ | h
  · have e : a = (endsL c ds).getD i 0 := by omega
    by_cases hlt : i < (primTo c ds ds.length).length
    · exact .inl ⟨hlt, h1, by rw [g5 hlt]; exact e⟩
    · have e2 := g6 hlt
      rw [e, e2] at h1
      exact .inr ⟨by omega, h1.done⟩
  · exact .inr h
theorem OInv.done {c : Cut} {ds : List Nat} {a : Nat} {out : List Nat} (h : OInv c ds (endsL c ds).length a out) : out = cuts c ds := by
  rcases h with ⟨h1, _⟩ | h
  · rw [endsL_length] at h1; omega
  · exact h.2
theorem JInv.bound {c : Cut} {ds : List Nat} {lo e a : Nat} {out : List Nat} (h : JInv c ds lo e a out) (he : e ≤ ds.length) : a ≤ ds.length := by
  rcases h with ⟨h1, h2, h3⟩ | h
  · omega
  · omega

theorem intsAt_chg {w w' : World} {a : Option Addr} {zs : List Nat} {M : Nat → Nat → Prop} (h : IntsAt w a zs) (hc : Chg M w w') (hM : ∀ ad, a = some ad → ∀ i, ¬ M ad.block i) : IntsAt w' a zs := by
  rcases h with e | ⟨b, o, e, hcell⟩
  · exact .inl e
  · exact .inr ⟨b, o, e, fun i hi => hc.cell (hcell i hi) (hM _ e _)⟩
theorem intsAt_chgG {w w' : World} {g : Nat} {zs : List Nat} {M : Nat → Nat → Prop} (h : IntsAt w (some ⟨g, 0, none⟩) zs) (hc : Chg M w w') (hM : ∀ i, ¬ M g i) : IntsAt w' (some ⟨g, 0, none⟩) zs :=
  intsAt_chg h hc fun ad e i hm => by
    have e' : ad.block = g := by cases e; rfl
    rw [e'] at hm
    exact hM i hm
/-- What the loops of the reference change: the list that they make. -/
def outM (N n2 : Nat) : Nat → Nat → Prop := fun g _ => g = N + 1 ∨ n2 ≤ g
def RefCRel (w2 : World) (N n : Nat) (R : Nat → List Nat → Prop) (v at' : Value) (wr : World) : Prop :=
  ∃ (a : Nat) (out : List Nat), at' = .int .i64 a ∧ a ≤ n ∧ R a out ∧ wr.ownsRow (N + 1) 3 1 v out.length (natV out) ∧ Chg (outM N w2.heap.size) w2 wr ∧ (∀ g, v.ownBlock = some g → outM N w2.heap.size g 0)

set_option maxRecDepth 100000 in
set_option maxHeartbeats 1000000 in
theorem refCuts_any (c : Cut) (hk : c.Ok) (a : Option Addr) (cap : Nat) (ds : List Nat) (hl : ds.length ≤ 1000000) (hcap : ds.length ≤ cap) (w : World) (h : BytesAt w a ds) :
    Calls Tryd.prog 52 #[.agg #[.int .i64 c.mn, .int .i64 c.mx, .int .i64 c.win, .int .i64 c.bits, .int .u64 (u c.seed)], .slice a ds.length cap] w fun e w' =>
      ∃ v, e = .returned v ∧ w'.ownsRow w.heap.size 3 1 v (cuts c ds).length (natV (cuts c ds)) ∧ Below w.heap.size w w' := by
  have HH := Lib.hid h
  have HK := Lib.hid hk
  have hmx1 : 1 ≤ c.mx := by have := hk.mx; have := hk.mn; have := hk.win1; omega
  have hmxle : c.mx ≤ 32768 := hk.most
  clear h hk
  obtain ⟨i0, hi, hz0, hz1, hz2⟩ := info_parts Tryd.info3
  have HI := Lib.hid hi
  have HZ0 := Lib.hid hz0
  have HZ1 := Lib.hid hz1
  have HZ2 := Lib.hid hz2
  clear hi hz0 hz1 hz2
  go_enter Tryd.func52, Tryd.ntmps52
  go_wp2_with fail
  have I0 := Lib.hid ((Inv.new w c.mn c.mx c.win c.bits c.seed).alloc (.cells #[] 3))
  refine (refPrimary_any c HK.out a cap ds (by omega) hcap _ (HH.out.later I0.out.b)).mono ?_
  rintro e w1 ⟨v1, rfl, ho1, hb1⟩
  have I1 := Lib.hid (I0.out.step hb1)
  have HOWN0 : Hid (w1.ownsRow (w.heap.size + 2) 3 1 v1 _ _) := ownsRow_base ho1 (by simp)
  have hlp := primTo_len c ds
  have hs1 : w.heap.size + 2 ≤ w1.heap.size := by have := hb1.size; simp at this; omega
  have HOUT1 : Hid (w1.ownsRow (w.heap.size + 1) 3 1 (.slice (some ⟨w.heap.size + 1, 0, none⟩) 0 0) 0 []) := by
    have h0 := World.ownsRow_made (base := w.heap.size + 1) (e := 3) (size := 1) (w.alloc (.cells #[.int .i64 c.mn, .int .i64 c.mx, .int .i64 c.win, .int .i64 c.bits, .int .u64 (u c.seed)] 48)) #[] 0 (by simp) (Nat.zero_le _) rfl
    have h1 := ownsRow_keep h0 (Chg.of_below (M := fun _ _ => False) hb1) (fun g hg i h => h)
    have h2 : w1.ownsRow (w.heap.size + 1) 3 1 (.slice (some ⟨w.heap.size + 1, 0, none⟩) 0 0) 0 [] := by simpa using h1
    exact h2
  clear ho1 hb1
  go_wp2_with (at_builtin; refine wpList_append_own _ rfl _ _ 57 rfl (w.heap.size + 2) 3 i0 (.int .i64 0) 1 8 Tryd.underlying57 HI.out HZ0.out HZ1.out HZ2.out rfl (by decide) _ _ _ rfl (HOWN0.out.alloc _) ⟨w1.heap.size, 0, none⟩ 1 1 [.int .i64 (ds.length : Int)] rfl rfl (cell_one_new _ _ _) (by simp [Value.oneCell']) (by unfold maxLen; omega) (by omega) (by simp; omega) ?_; intro v2 w2 hown2 hgr2 _; have HO2 := Lib.hid hown2; have HG2 := Lib.hid hgr2; clear hown2 hgr2)
  have HC2 : Hid (Chg (fun g _ => w.heap.size + 2 ≤ g) w1 w2) := (Chg.alloc1 w1 _).trans (Chg.of_grown HG2.out (fun g _ e => (HOWN0.out.lt g e).1))
  have I2 := Lib.hid (I1.out.chg HC2.out (by omega) (fun g i hg h => by omega))
  have HOUT2 := Lib.hid (ownsRow_keepM HOUT1.out HC2.out (fun g hg i hm => by simp [Value.ownBlock] at hg; omega))
  have HE2 : Hid (w2.ownsRow (w.heap.size + 2) 3 1 v2 (endsL c ds).length (natV (endsL c ds))) := by
    show World.ownsRow _ _ _ _ _ _ _
    rw [endsL_length]
    have e : natV (endsL c ds) = natV (primTo c ds ds.length) ++ [.int .i64 (ds.length : Int)] := by simp [endsL, natV]
    rw [e]; exact HO2.out
  obtain ⟨gE, capE, hvE⟩ := ownsRow_succ (by have := HE2.out; rw [endsL_length] at this; exact this)
  rw [← endsL_length] at hvE
  subst hvE
  have hgE := HE2.out.lt gE rfl
  have HIE : Hid (IntsAt w2 (some ⟨gE, 0, none⟩) (endsL c ds)) := by
    obtain ⟨_, a', cap', hv, _, _, hi', _⟩ := ints_of_own HE2.out
    cases hv
    exact hi'
  have hel := endsL_length c ds
  have HEL := Lib.hid hel
  have hs2 : w.heap.size + 2 ≤ w2.heap.size := by have := HC2.out.size; omega
  clear HO2 HG2 HOUT1 HOWN0 HE2 I0 I1
  obtain ⟨m, hm⟩ : ∃ m, (endsL c ds).length = m := ⟨_, rfl⟩
  have HM := Lib.hid hm
  rw [hm] at hel ⊢
  have hmb : m ≤ 1000001 := by omega
  clear hm hel
  generalize hN : w.heap.size = N at *
  have HN := Lib.hid hN
  clear hN
  go_loopw [5, 6, 8] (fun v at' i wr => ∃ k : Nat, k ≤ m ∧ i = .int .i64 k ∧ RefCRel w2 N ds.length (fun a out => OInv c ds k a out) v at' wr) (fun _ _ i _ => m - (intOf i).toNat)
  case atStart => exact ⟨0, Nat.zero_le _, rfl, 0, [], rfl, Nat.zero_le _, OInv.start c ds, HOUT2.out, Chg.refl _ _, fun g hg => by simp [Value.ownBlock] at hg; exact .inl hg.symm⟩
  case round =>
    obtain ⟨k, hk, rfl, p, out, rfl, hp, hO, how, hch, hblk⟩ := hrel
    have HO := Lib.hid hO
    have HW := Lib.hid how
    have HCH := Lib.hid hch
    have HBK := Lib.hid hblk
    clear hO how hch hblk
    by_cases hlt : k < m
    · go_wp2_with fail
      have HG := Lib.hid (gap c ds k (by rw [HM.out]; exact hlt))
      have hE2 := HG.out.2.1
      have HJ := Lib.hid (HO.out.go (by rw [HM.out]; exact hlt))
      have HEK : Hid (∀ wq, Chg (outM N w2.heap.size) w2 wq → wq.cell? ⟨gE, k, none⟩ = some (.int .i64 (((endsL c ds).getD k 0 : Nat) : Int)) ∧ wq.cell? ⟨N, 1, none⟩ = some (.int .i64 c.mx)) := fun wq hq => by
        have h1 := intsAt_chgG HIE.out hq (fun i hm => by rcases hm with h | h <;> omega)
        obtain ⟨b', o', e', hcell⟩ := h1.some (by rw [HM.out]; omega)
        cases e'
        have h2 := hcell k (by rw [HM.out]; exact hlt)
        rw [Nat.zero_add] at h2
        exact ⟨h2, hq.cell (by have h := I2.out.x.c1; rw [HN.out] at h; exact h) (by rintro (h | h) <;> omega)⟩
      have HJR := Lib.hid (fun (p : Nat) (out : List Nat) (h : JInv c ds ((0 :: primTo c ds ds.length).getD k 0) ((endsL c ds).getD k 0) p out) => JInv.round hmx1 (by rw [HM.out]; exact hlt) h)
      have HJD := Lib.hid (fun (p : Nat) (out : List Nat) (h : JInv c ds ((0 :: primTo c ds ds.length).getD k 0) ((endsL c ds).getD k 0) p out) => JInv.done (by rw [HM.out]; exact hlt) h)
      generalize (endsL c ds).getD k 0 = E at HEK HJ HJR HJD hE2
      generalize (0 :: primTo c ds ds.length).getD k 0 = lo at HJ HJR HJD
      clear HG
      go_loopw [5, 6] (fun v at' wr => RefCRel w2 N ds.length (fun a out => JInv c ds lo E a out) v at' wr) (fun _ at' _ => E - (intOf at').toNat)
      case atStart => exact ⟨p, out, rfl, hp, HJ.out, HW.out, HCH.out, HBK.out⟩
      case round =>
        obtain ⟨q, outq, rfl, hq, hJ, how, hch, hblk⟩ := hrel
        have HJq := Lib.hid hJ
        have HWq := Lib.hid how
        have HCq := Lib.hid hch
        have HBq := Lib.hid hblk
        clear hJ how hch hblk
        obtain ⟨e1, e2⟩ := HEK.out _ HCq.out
        by_cases hqe : q < E
        · obtain ⟨hJ2, hol⟩ := HJR.out q outq HJq.out hqe
          have HJ2 := Lib.hid hJ2
          have hmin : (if (E : Int) < (q : Int) + (c.mx : Int) then (E : Int) else (q : Int) + (c.mx : Int)) = ((min (q + c.mx) E : Nat) : Int) := by split <;> omega
          have hm1 : min (q + c.mx) E ≤ E := Nat.min_le_right _ _
          have hm2 : q < min (q + c.mx) E := by omega
          generalize min (q + c.mx) E = z at hmin HJ2 hm1 hm2
          have hqE : (q : Int) < (E : Int) := by omega
          clear hJ2
          have hwr : IntKind.i64.wrap ((q : Int) + (c.mx : Int)) = (q : Int) + (c.mx : Int) := by rw [IntKind.wrap_i64]; omega
          go_upto_region 8 with fail
          go_region_held3 (fun w' => w'.cell? ⟨gE, k, none⟩ = some (.int .i64 (E : Int)) ∧ w'.cell? ⟨N, 1, none⟩ = some (.int .i64 c.mx)) (go_keep) (fail)
          have HCV : Hid (Chg (outM N w2.heap.size) w2 wr.drew) := HCq.out.drew
          have HWV : Hid (wr.drew.ownsRow (N + 1) 3 1 u5 outq.length (natV outq)) := HWq.out
          generalize hV : wr.drew = V at HCV HWV ⊢
          clear hV
          have hsz5 := HCV.out.size
          clear hwr hmin
          go_wp2_with (at_builtin; refine wpList_append_own_at _ rfl _ _ 57 rfl (N + 1) 3 i0 (.int .i64 0) 1 8 Tryd.underlying57 HI.out HZ0.out HZ1.out HZ2.out rfl (by decide) _ _ _ rfl (HWV.out.alloc _) ⟨V.heap.size, 0, none⟩ 1 1 [.int .i64 (z : Int)] rfl rfl (cell_one_new _ _ _) (by simp [Value.oneCell']) (by unfold maxLen; omega) (by omega) (by simp; omega) ?_; intro v' w4 hown4 hgr4 _ hat4; have HW4 := Lib.hid hown4; have HG4 := Lib.hid hgr4; have HA4 := Lib.hid hat4; clear hown4 hgr4 hat4)
          have HWZ : Hid (w4.ownsRow (N + 1) 3 1 v' (outq ++ [z]).length (natV (outq ++ [z]))) := by
            have e : natV (outq ++ [z]) = natV outq ++ [.int .i64 (z : Int)] := by simp [natV]
            show World.ownsRow _ _ _ _ _ _ _
            rw [e, List.length_append]
            exact HW4.out
          have HCZ : Hid (Chg (outM N w2.heap.size) w2 w4) := HCV.out.trans ((Chg.alloc1 V _).trans (Chg.of_grown HG4.out (fun g _ e => HBq.out g e)))
          have HBZ : Hid (∀ g, v'.ownBlock = some g → outM N w2.heap.size g 0) := fun g hg => by
            rcases HA4.out with h | h
            · exact HBq.out g (h.symm.trans hg)
            · rw [h] at hg
              have e : V.heap.size + 1 = g := by simpa using hg
              exact .inr (by omega)
          go_wp2_with fail
          go_roundw
          case rel => exact ⟨z, outq ++ [z], rfl, by omega, HJ2.out, HWZ.out, HCZ.out, HBZ.out⟩
          case measure => simp [intOf]; omega
        · have HOk := Lib.hid (HJD.out q outq HJq.out hqe)
          go_wp2_with fail
          go_roundw
          case rel => exact ⟨k + 1, by omega, by go_num, q, outq, rfl, hq, HOk.out, HWq.out, HCq.out, HBq.out⟩
          case measure => simp [intOf]; omega
    · have e : k = m := by omega
      subst e
      go_wp2_with fail
      go_ret
      have hd := HO.out
      rw [← HM.out] at hd
      have hd2 := hd.done
      rw [hd2] at HW
      exact ⟨_, rfl, by rw [HN.out]; exact ownsRow_base HW.out (by omega), I2.out.b.trans (HCH.out.below (by have := HN.out; omega) (fun g i hg hm => by have := HN.out; rcases hm with h | h <;> omega))⟩
end Go.Proofs.YtfnhcjcahcacnaaDoor
