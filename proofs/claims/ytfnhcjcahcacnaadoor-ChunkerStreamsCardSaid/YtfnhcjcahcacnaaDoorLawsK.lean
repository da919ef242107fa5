/- The law ChunkerAtOnce: the walk. -/
import Derived.Test.YtfnhcjcahcacnaaDoorLawsJ
namespace Go.Proofs.YtfnhcjcahcacnaaDoor
set_option linter.unusedVariables false
set_option linter.unusedSimpArgs false
open Go.RowKit
open Roll (u)
open Kit (Chg)
open Chk

theorem chunksS_le (c : Cut) (ds : List Nat) (k : Nat) : (chunksS c ds k).length ≤ k := by rw [chunksS_length]; exact cutsS_length c ds k
theorem lastP_eq (c : Cut) (ds : List Nat) (h : primTo c ds ds.length ≠ []) : (primTo c ds ds.length).getD ((primTo c ds ds.length).length - 1) 0 = lastP c ds ds.length := by
  have h1 := List.length_pos_iff.2 h
  rw [← primTo_last]
  obtain ⟨m, hm⟩ : ∃ m, (primTo c ds ds.length).length = m + 1 := ⟨(primTo c ds ds.length).length - 1, by omega⟩
  rw [hm, List.getD_cons_succ, Nat.add_sub_cancel]
theorem lastP_full {c : Cut} {ds : List Nat} {n : Nat} (h1 : 1 ≤ n) : lastP c ds n = n ↔ prim c ds n = true := by
  obtain ⟨k, rfl⟩ : ∃ k, n = k + 1 := ⟨n - 1, by omega⟩
  rw [lastP]
  have := lastP_le c ds k
  constructor
  · intro h
    split at h
    · assumption
    · omega
  · intro h; rw [if_pos h]
/-- The chunks that Push has handed out at once, told from the reference's. -/
theorem atOnce (c : Cut) (hk : c.Ok) (ds : List Nat) :
    (chunks c ds = [] → chunksS c ds ds.length = []) ∧
    (chunks c ds ≠ [] → ((chunks c ds).getD ((chunks c ds).length - 1) []).length < c.mx → (primTo c ds ds.length = [] ∨ (primTo c ds ds.length).getD ((primTo c ds ds.length).length - 1) 0 ≠ ds.length) → (chunks c ds).take ((chunks c ds).length - 1) = chunksS c ds ds.length) ∧
    (chunks c ds ≠ [] → ((chunks c ds).getD ((chunks c ds).length - 1) []).length < c.mx → primTo c ds ds.length ≠ [] → (primTo c ds ds.length).getD ((primTo c ds ds.length).length - 1) 0 = ds.length → chunks c ds = chunksS c ds ds.length) ∧
    (chunks c ds ≠ [] → ¬ ((chunks c ds).getD ((chunks c ds).length - 1) []).length < c.mx → chunks c ds = chunksS c ds ds.length) := by
  have hmx1 : 1 ≤ c.mx := by have := hk.mx; have := hk.mn; have := hk.win1; omega
  by_cases hs : startS c ds ds.length < ds.length
  · have e : chunks c ds = chunksS c ds ds.length ++ [ds.drop (startS c ds ds.length)] := by unfold chunks; rw [if_pos hs]
    have hlast : (chunks c ds).getD ((chunks c ds).length - 1) [] = ds.drop (startS c ds ds.length) := by
      rw [e, List.length_append, List.length_singleton, Nat.add_sub_cancel, List.getD_eq_getElem?_getD, List.getElem?_append_right (Nat.le_refl _)]; simp
    have hm := startS_mx c ds hmx1 ds.length
    have hn1 : 1 ≤ ds.length := by omega
    have hnp : prim c ds ds.length ≠ true := fun h => by rw [startS_prim hn1 h] at hs; omega
    rw [hlast, List.length_drop]
    refine ⟨fun h => by rw [e] at h; simp at h, fun _ _ _ => by rw [e, List.length_append, List.length_singleton, Nat.add_sub_cancel, List.take_left], fun _ _ hp hl => ?_, fun _ h => by omega⟩
    rw [lastP_eq c ds hp] at hl
    exact absurd ((lastP_full hn1).1 hl) hnp
  · have e : chunks c ds = chunksS c ds ds.length := by unfold chunks; rw [if_neg hs, List.append_nil]
    refine ⟨fun h => by rw [← e]; exact h, fun h0 hlt hp => ?_, fun _ _ _ _ => e, fun _ _ => e⟩
    exfalso
    have hsl := startS_le c ds ds.length
    by_cases hn0 : ds.length = 0
    · apply h0; rw [e, hn0]; rfl
    · obtain ⟨k, hk'⟩ : ∃ k, ds.length = k + 1 := ⟨ds.length - 1, by omega⟩
      have hcut : cutS c ds k = true := by
        cases hc : cutS c ds k with
        | true => rfl
        | false =>
          have := startS_no hc
          rw [← hk'] at this
          have := startS_le c ds k
          omega
      have hlast : (chunks c ds).getD ((chunks c ds).length - 1) [] = (ds.take (k + 1)).drop (startS c ds k) := by
        rw [e, hk', chunksS_yes hcut, List.length_append, List.length_singleton, Nat.add_sub_cancel, List.getD_eq_getElem?_getD, List.getElem?_append_right (Nat.le_refl _)]; simp
      rw [hlast, List.length_drop, List.length_take, hk', Nat.min_self] at hlt
      have hpr : prim c ds (k + 1) = true := by
        unfold cutS at hcut
        rw [Bool.or_eq_true, decide_eq_true_eq] at hcut
        rcases hcut with h | h
        · exact h
        · omega
      have hmem : k + 1 ∈ primTo c ds ds.length := (mem_primTo c ds (k + 1) ds.length).2 ⟨by omega, by omega, hpr⟩
      have hne : primTo c ds ds.length ≠ [] := fun h => by rw [h] at hmem; cases hmem
      rcases hp with h | h
      · exact hne h
      · apply h
        rw [lastP_eq c ds hne]
        exact (lastP_full (by omega)).2 (by rw [hk']; exact hpr)

theorem chrPush_nil (b : Nat) (a : Option Addr) (cap : Nat) (w : World) : Calls Tryd.prog 42 #[.pointer (some ⟨b, 0, none⟩), .slice a 0 cap] w fun e w' => e = .returned (.slice none 0 0) ∧ w = w' := by
  go_enter Tryd.func42, Tryd.ntmps42
  go_wp2_with fail
  go_loopw [5, 10] (fun v i wr => v = .slice none 0 0 ∧ i = .int .i64 0 ∧ w = wr) (fun _ _ _ => 0)
  case atStart => exact ⟨rfl, rfl, rfl⟩
  case round =>
    obtain ⟨rfl, rfl, rfl⟩ := hrel
    go_wp2_with fail
    go_ret
    exact ⟨rfl, rfl⟩
theorem push_z (c : Cut) (hk : c.Ok) (B0 b : Nat) (a : Option Addr) (cap : Nat) (bs : List Nat) (zs : List (List Nat)) (hz : chunksS c bs bs.length = zs) (hl : bs.length ≤ 100000) (w : World) (h : ChrAt w B0 b c [] (.slice none 0 0)) (hB0 : B0 ≤ w.heap.size) (hbB : B0 ≤ b) (hx : BytesAt w a bs)
    (hxb : ∀ ad, a = some ad → 0 < bs.length → ad.block < B0) (hT : TabAt 0 Lib.deBruijn64tab w) (hpos : 0 < B0) :
    Calls Tryd.prog 42 #[.pointer (some ⟨b, 0, none⟩), .slice a bs.length cap] w fun e w' => ∃ a' cap', e = .returned (.slice a' zs.length cap') ∧ Lists w' a' zs ∧ Below B0 w w' := by
  subst hz
  by_cases h0 : bs = []
  · subst h0
    refine (chrPush_nil b a cap w).mono ?_
    rintro e w' ⟨rfl, rfl⟩
    exact ⟨none, 0, rfl, .inl rfl, Below.refl _ _⟩
  · have h1 := List.length_pos_iff.2 h0
    refine (chrPush_any B0 b c hk [] bs (.slice none 0 0) a cap (by simpa using hl) w h hB0 hbB hx (fun ad e => ⟨by have := hxb ad e h1; omega, by simp [Value.ownBlock]⟩) hT hpos).mono ?_
    rintro e w' ⟨v, rfl, ⟨⟨bv, rows, hA, hO, _⟩, hc⟩⟩
    have e0 : chunksFrom c ([] ++ bs) ([] : List Nat).length bs.length = chunksS c bs bs.length := chunksFrom_zero c bs bs.length
    rw [e0] at hO
    obtain ⟨_, a', cap', rfl, _, _, hl', _⟩ := lists_of_own hO.own hO.are
    refine ⟨a', cap', rfl, hl', hc.below hB0 fun k i hk' hm => ?_⟩
    rcases hm with (hm | hm) | hm
    · omega
    · simp [Value.ownBlock] at hm
    · omega

theorem same_z (a a' : Option Addr) (cap cap' n m : Nat) (zs ys : List (List Nat)) (hn : zs.length = n) (hm : ys.length = m) (he : zs = ys) (hl : zs.length ≤ 1000000) (w : World) (h : Lists w a zs) (h' : Lists w a' ys) :
    Calls Tryd.prog 45 #[.slice a n cap, .slice a' m cap'] w fun e w' => e = .returned (.bool true) ∧ Below w.heap.size w w' := by
  subst hn
  subst hm
  subst he
  have := same_any a a' cap cap' zs zs hl hl w h h'
  rwa [decide_eq_true rfl] at this
theorem lists_sub {w : World} {a : Option Addr} {zs : List (List Nat)} {cap : Nat} (h : Lists w a zs) (hc : zs.length ≤ cap) (k : Nat) : Lists w (subA a 0 cap) (zs.take k) := by
  by_cases h0 : zs.take k = []
  · exact .inl h0
  · have h1 := List.length_pos_iff.2 h0
    rw [List.length_take] at h1
    obtain ⟨b, o, rfl, hcell⟩ := h.some (by omega)
    refine .inr ⟨b, o, subA_some (by omega), fun i hi => ?_⟩
    rw [List.length_take] at hi
    have e : (zs.take k).getD i [] = zs.getD i [] := by simp [List.getD, List.getElem?_take, show i < k by omega]
    rw [e]
    exact hcell i (by omega)
theorem Tryd.sizeOf28 (W : World) : (Go.sizeOf 28).run Tryd.prog W = .ok 1 W := by kernel_rfl
theorem Tryd.elem54 : Tryd.prog.elem 54 = 28 := by kernel_rfl
theorem slice_h54 (a : Option Addr) (n cap h : Nat) (hh : h ≤ cap) (W : World) : (Instr.slice 54 (.slice a n cap) none (some (.int .i64 (h : Int))) none).run Tryd.prog W = .ok (.slice (subA a 0 cap) h cap) W := by
  rw [run_slice_h W 54 _ _ _ (by rw [Tryd.elem54]; exact Tryd.underlying54) .i64 _ (by omega) (by omega), Tryd.elem54, Tryd.sizeOf28]
  simp [Result.andThen, sliced, subA]
theorem refSplit_n (c : Cut) (hk : c.Ok) (a : Option Addr) (cap : Nat) (ds : List Nat) (zs : List (List Nat)) (n : Nat) (hz : chunks c ds = zs) (hn : zs.length = n) (hl : ds.length ≤ 100000) (hcap : ds.length ≤ cap) (hnil : a = none → cap = 0) (w : World) (h : BytesAt w a ds) :
    Calls Tryd.prog 43 #[.agg #[.int .i64 c.mn, .int .i64 c.mx, .int .i64 c.win, .int .i64 c.bits, .int .u64 (u c.seed)], .slice a ds.length cap] w fun e w' =>
      ∃ a' cap', e = .returned (.slice a' n cap') ∧ Lists w' a' zs ∧ zs.length ≤ cap' ∧ Below w.heap.size w w' ∧ (a' = none → cap' = 0) := by
  subst hn
  exact refSplit_z c hk a cap ds zs hz hl hcap hnil w h
theorem refPrimary_n (c : Cut) (hk : c.Ok) (a : Option Addr) (cap : Nat) (ds zs : List Nat) (n : Nat) (hz : primTo c ds ds.length = zs) (hn : zs.length = n) (hl : ds.length ≤ 1000000) (hcap : ds.length ≤ cap) (w : World) (h : BytesAt w a ds) :
    Calls Tryd.prog 44 #[.agg #[.int .i64 c.mn, .int .i64 c.mx, .int .i64 c.win, .int .i64 c.bits, .int .u64 (u c.seed)], .slice a ds.length cap] w fun e w' =>
      ∃ a' cap', e = .returned (.slice a' n cap') ∧ IntsAt w' a' zs ∧ Below w.heap.size w w' := by
  subst hz
  subst hn
  refine (refPrimary_any c hk a cap ds hl hcap w h).mono ?_
  rintro e w' ⟨v, rfl, ho, hb⟩
  obtain ⟨_, a', cap', rfl, _, _, hi, _⟩ := ints_of_own ho
  exact ⟨a', cap', rfl, hi, hb⟩

set_option maxRecDepth 100000 in
set_option maxHeartbeats 1000000 in
theorem walk_ChunkerAtOnce (mn mx win bits : Int) (s : BitVec 64) (a : Option Addr) (cap : Nat) (bs : List Nat) (w : World) (hB : BytesAt w a bs) (hcap : bs.length ≤ cap) (hnil : a = none → cap = 0) (hl : bs.length ≤ 140737488351232) (hT : TabAt 0 Lib.deBruijn64tab w) :
    Calls Tryd.prog 11 #[.agg #[.int .i64 mn, .int .i64 mx, .int .i64 win, .int .i64 bits, .int .u64 (u s)], .slice a bs.length cap] w fun e w' => e = .returned (.bool true) ∧ Below w.heap.size w w' := by
  have HT := Lib.hid hT
  have HBY := Lib.hid hB
  have HCAP := Lib.hid hcap
  have HNIL := Lib.hid hnil
  clear hT hB hcap hnil
  go_enter Tryd.func11, Tryd.ntmps11
  go_wp2_with fail
  refine (small_any mn mx win bits s _).mono ?_
  rintro e w1 ⟨rfl, hb⟩
  have I1 := Lib.hid ((Inv.new w mn mx win bits s).step hb)
  clear hb
  cases hv : smallB mn mx win bits with
  | false =>
    clear hv
    go_wp2_with fail
    refine (awake16 w1 (I1.out.tab HT.out)).mono ?_
    rintro e w3 ⟨rfl, hb3⟩
    have I3 := Lib.hid (I1.out.step hb3)
    clear hb3
    go_wp2_with fail
    go_ret
    exact ⟨rfl, I3.out.b⟩
  | true =>
    have hv2 := valid_of_small hv
    clear hv
    go_wp2_with fail
    refine (few1_any w1 a bs.length cap).mono ?_
    rintro e w2 ⟨rfl, he2⟩
    have I2 : Hid (Inv w w2 mn mx win bits s) := by rw [← he2]; exact I1.out.alloc _
    clear he2 I1
    by_cases h3 : bs.length ≤ 300
    · rw [decide_eq_true h3]
      obtain ⟨c, hk, rfl, rfl, rfl, rfl, rfl⟩ := cut_of_valid s hv2
      have HK := Lib.hid hk
      clear hk hv2
      obtain ⟨c0, c1, c2, c3, c4⟩ := I2.out.x
      obtain ⟨L, hL, hkl⟩ : ∃ L, chunks c bs = L ∧ L.length ≤ 300 := ⟨_, rfl, by have := chunks_len c bs; omega⟩
      obtain ⟨D, hD, hdl⟩ : ∃ D, chunksS c bs bs.length = D ∧ D.length ≤ 300 := ⟨_, rfl, by have := chunksS_le c bs bs.length; omega⟩
      obtain ⟨P, hP, hpl⟩ : ∃ P, primTo c bs bs.length = P ∧ P.length ≤ 300 := ⟨_, rfl, by have := primTo_len c bs; omega⟩
      have AO := Lib.hid (atOnce c HK.out bs)
      rw [hL, hD, hP] at AO
      have HL := Lib.hid hL
      have HD := Lib.hid hD
      have HP := Lib.hid hP
      clear hL hD hP
      go_wp2_with fail
      refine (new_ok c HK.out w2 (by have := I2.out.lt; omega)).mono ?_
      rintro e w3 ⟨b, rfl, hb1, hb2, hA, hb3⟩
      have I3 := Lib.hid (I2.out.step hb3)
      have HA := Lib.hid hA
      have hs3 := hb3.size
      clear hA hb3 c0 c1 c2 c3 c4
      go_wp2_with fail
      refine (push_z c HK.out w2.heap.size b a cap bs D HD.out (by omega) w3 HA.out hs3 hb1 (HBY.out.later I3.out.b) (fun ad e h0 => by
        obtain ⟨b', o', e', hcell⟩ := HBY.out.some h0
        have hb9 : b' < w.heap.size := World.block_lt_of_cell? w ⟨b', o' + 0, none⟩ (hcell 0 h0)
        rw [e] at e'
        cases e'
        exact Nat.lt_trans hb9 I2.out.lt) (I3.out.tab HT.out) (by have := I2.out.lt; omega)).mono ?_
      rintro e w4 ⟨a4, cap4, rfl, hl4, hb4⟩
      have I4 : Hid (Inv w w4 (c.mn : Int) (c.mx : Int) (c.win : Int) (c.bits : Int) c.seed) := ⟨I3.out.b.trans (hb4.mono (by have := I2.out.lt; omega)), I3.out.x.later hb4 I2.out.lt, Nat.lt_of_lt_of_le I3.out.lt hb4.size⟩
      have HL4 := Lib.hid hl4
      clear hb4 hl4
      obtain ⟨c0, c1, c2, c3, c4⟩ := I4.out.x
      go_wp2_with fail
      obtain ⟨n, hn⟩ : ∃ n, L.length = n := ⟨_, rfl⟩
      have HNL := Lib.hid hn
      have hn3 : n ≤ 300 := by omega
      clear hn
      refine (refSplit_n c HK.out a cap bs L n HL.out HNL.out (by omega) HCAP.out HNIL.out w4 (HBY.out.later I4.out.b)).mono ?_
      rintro e w5 ⟨a5, cap5, rfl, hl5, hcap5, hb5, hnil5⟩
      have I5 := Lib.hid (I4.out.step hb5)
      have HD5 := Lib.hid (HL4.out.later hb5)
      have HL5 := Lib.hid hl5
      have HCP5 := Lib.hid hcap5
      clear hb5 hl5 c0 c1 c2 c3 c4 hkl hcap5 hnil5
      obtain ⟨c0, c1, c2, c3, c4⟩ := I5.out.x
      by_cases hL0 : n = 0
      · subst hL0
        have HEQ : Hid (D = L) := by
          have h1 := List.eq_nil_of_length_eq_zero HNL.out
          have h := AO.out.1 h1
          show D = L
          rw [h, h1]
        go_wp2_with (go_quiet (fail))
        refine (awake16 _ ((I5.out.drewN _).tab HT.out)).mono ?_
        rintro e wA ⟨rfl, hbA⟩
        have IA := Lib.hid ((I5.out.drewN _).step hbA)
        have HDA := Lib.hid ((HD5.out.later (below_drewN (Below.refl _ _) _)).later hbA)
        have HLA := Lib.hid ((HL5.out.later (below_drewN (Below.refl _ _) _)).later hbA)
        clear hbA
        go_wp2_with fail
        refine (same_z a4 a5 cap4 cap5 D.length 0 D L rfl HNL.out HEQ.out (by omega) wA HDA.out HLA.out).mono ?_
        rintro e wB ⟨rfl, hbB⟩
        have IB := Lib.hid (IA.out.step hbB)
        clear hbB
        go_wp2_with fail
        go_ret
        exact ⟨rfl, IB.out.b⟩
      · obtain ⟨m, rfl⟩ : ∃ m, n = m + 1 := ⟨n - 1, by omega⟩
        have hLne : L ≠ [] := fun h => by have := HNL.out; rw [h] at this; simp at this
        obtain ⟨b5, o5, rfl, hcell⟩ := HL5.out.some (by have := HNL.out; omega)
        obtain ⟨ai, ci, hck, _, _⟩ := hcell m (by have := HNL.out; omega)
        have AO2 := AO.out.2.1 hLne
        have AO3 := AO.out.2.2.1 hLne
        have AO4 := AO.out.2.2.2 hLne
        rw [HNL.out, Nat.add_sub_cancel] at AO2 AO3 AO4
        generalize (L.getD m []).length = x at hck AO2 AO3 AO4
        have A2 := Lib.hid AO2
        have A3 := Lib.hid AO3
        have A4 := Lib.hid AO4
        have hmx3 : c.mx ≤ 32768 := HK.out.most
        clear AO2 AO3 AO4 hcell hLne
        by_cases hx : x < c.mx
        · have hxi : (x : Int) < (c.mx : Int) := by omega
          obtain ⟨np, hnp⟩ : ∃ np, P.length = np := ⟨_, rfl⟩
          have HNP := Lib.hid hnp
          have hnp3 : np ≤ 300 := by omega
          clear hnp
          have hsl := slice_h54 (some ⟨b5, o5, none⟩) (m + 1) cap5 m (by have := HCP5.out; have := HNL.out; omega)
          have HTK : Hid ((L.take m).length = m) := by have := HNL.out; show _ = _; rw [List.length_take]; omega
          go_wp2_with (go_quiet (fail))
          refine (refPrimary_n c HK.out a cap bs P np HP.out HNP.out (by omega) HCAP.out _ (HBY.out.later (I5.out.drewN _).b)).mono ?_
          rintro e w7 ⟨a7, cap7, rfl, hi7, hb7⟩
          have I7 := Lib.hid ((I5.out.drewN _).step hb7)
          have HD7 := Lib.hid ((HD5.out.later (below_drewN (Below.refl _ _) _)).later hb7)
          have HL7 := Lib.hid ((HL5.out.later (below_drewN (Below.refl _ _) _)).later hb7)
          have HS7 := Lib.hid (lists_sub HL7.out HCP5.out m)
          clear hb7 hck
          by_cases hP0 : np = 0
          · subst hP0
            have HEQ : Hid (D = L.take m) := (A2.out hx (.inl (List.eq_nil_of_length_eq_zero HNP.out))).symm
            go_wp2_with fail
            refine (awake16 _ (I7.out.tab HT.out)).mono ?_
            rintro e wA ⟨rfl, hbA⟩
            have IA := Lib.hid (I7.out.step hbA)
            have HDA := Lib.hid (HD7.out.later hbA)
            have HLA := Lib.hid (HS7.out.later hbA)
            clear hbA
            go_wp2_with fail
            refine (same_z a4 (subA (some ⟨b5, o5, none⟩) 0 cap5) cap4 cap5 D.length m D (L.take m) rfl HTK.out HEQ.out (by omega) wA HDA.out HLA.out).mono ?_
            rintro e wB ⟨rfl, hbB⟩
            have IB := Lib.hid (IA.out.step hbB)
            clear hbB
            go_wp2_with fail
            go_ret
            exact ⟨rfl, IB.out.b⟩
          · obtain ⟨q, rfl⟩ : ∃ q, np = q + 1 := ⟨np - 1, by omega⟩
            have hPne : P ≠ [] := fun h => by have := HNP.out; rw [h] at this; simp at this
            obtain ⟨b7, o7, rfl, hcell⟩ := hi7.some (by have := HNP.out; omega)
            have hcy := hcell q (by have := HNP.out; omega)
            have B2 := A2.out hx
            have B3 := A3.out hx hPne
            rw [HNP.out, Nat.add_sub_cancel] at B2 B3
            generalize P.getD q 0 = y at hcy B2 B3
            have B2' := Lib.hid B2
            have B3' := Lib.hid B3
            clear B2 B3 hcell hPne hi7
            by_cases hy : y = bs.length
            · have HEQ : Hid (D = L) := (B3'.out hy).symm
              have hyi : (y : Int) = (bs.length : Int) := by omega
              clear B2' B3'
              subst hy
              go_wp2_with fail
              refine (awake16 _ (I7.out.tab HT.out)).mono ?_
              rintro e wA ⟨rfl, hbA⟩
              have IA := Lib.hid (I7.out.step hbA)
              have HDA := Lib.hid (HD7.out.later hbA)
              have HLA := Lib.hid (HL7.out.later hbA)
              clear hbA
              go_wp2_with fail
              refine (same_z a4 (some ⟨b5, o5, none⟩) cap4 cap5 D.length (m + 1) D L rfl HNL.out HEQ.out (by omega) wA HDA.out HLA.out).mono ?_
              rintro e wB ⟨rfl, hbB⟩
              have IB := Lib.hid (IA.out.step hbB)
              clear hbB
              go_wp2_with fail
              go_ret
              exact ⟨rfl, IB.out.b⟩
            · have HEQ : Hid (D = L.take m) := (B2'.out (.inr hy)).symm
              have hyi : ((y : Int) != (bs.length : Int)) = true := by rw [bne_iff_ne]; omega
              clear hy
              go_wp2_with fail
              refine (awake16 _ (I7.out.tab HT.out)).mono ?_
              rintro e wA ⟨rfl, hbA⟩
              have IA := Lib.hid (I7.out.step hbA)
              have HDA := Lib.hid (HD7.out.later hbA)
              have HLA := Lib.hid (HS7.out.later hbA)
              clear hbA
              go_wp2_with fail
              refine (same_z a4 (subA (some ⟨b5, o5, none⟩) 0 cap5) cap4 cap5 D.length m D (L.take m) rfl HTK.out HEQ.out (by omega) wA HDA.out HLA.out).mono ?_
              rintro e wB ⟨rfl, hbB⟩
              have IB := Lib.hid (IA.out.step hbB)
              clear hbB
              go_wp2_with fail
              go_ret
              exact ⟨rfl, IB.out.b⟩
        · have hxi : ¬ (x : Int) < (c.mx : Int) := by omega
          have HEQ : Hid (D = L) := (A4.out hx).symm
          go_wp2_with (go_quiet (fail))
          refine (awake16 _ ((I5.out.drewN _).tab HT.out)).mono ?_
          rintro e wA ⟨rfl, hbA⟩
          have IA := Lib.hid ((I5.out.drewN _).step hbA)
          have HDA := Lib.hid ((HD5.out.later (below_drewN (Below.refl _ _) _)).later hbA)
          have HLA := Lib.hid ((HL5.out.later (below_drewN (Below.refl _ _) _)).later hbA)
          clear hbA
          go_wp2_with fail
          refine (same_z a4 (some ⟨b5, o5, none⟩) cap4 cap5 D.length (m + 1) D L rfl HNL.out HEQ.out (by omega) wA HDA.out HLA.out).mono ?_
          rintro e wB ⟨rfl, hbB⟩
          have IB := Lib.hid (IA.out.step hbB)
          clear hbB
          go_wp2_with fail
          go_ret
          exact ⟨rfl, IB.out.b⟩
    · rw [decide_eq_false h3]
      go_wp2_with fail
      refine (awake16 w2 (I2.out.tab HT.out)).mono ?_
      rintro e w3 ⟨rfl, hb3⟩
      have I3 := Lib.hid (I2.out.step hb3)
      clear hb3
      go_wp2_with fail
      go_ret
      exact ⟨rfl, I3.out.b⟩
end Go.Proofs.YtfnhcjcahcacnaaDoor
