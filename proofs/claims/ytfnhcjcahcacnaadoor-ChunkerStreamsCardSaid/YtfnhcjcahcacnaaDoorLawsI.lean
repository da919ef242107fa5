/- The law ChunkerPrefix: the walk. -/
import Derived.Test.YtfnhcjcahcacnaaDoorSlc
namespace Go.Proofs.YtfnhcjcahcacnaaDoor
set_option linter.unusedVariables false
set_option linter.unusedSimpArgs false
open Go.RowKit
open Roll (u)
open Kit (Chg)
open Chk

theorem primTo_split (c : Cut) (ds : List Nat) (n : Nat) : ∀ k, ∃ r, primTo c ds (n + k) = primTo c ds n ++ r ∧ ∀ x ∈ r, n < x
  | 0 => ⟨[], by simp, fun x hx => by cases hx⟩
  | k + 1 => by
    obtain ⟨r, h1, h2⟩ := primTo_split c ds n k
    cases hp : prim c ds (n + k + 1) with
    | true => exact ⟨r ++ [n + k + 1], by rw [← Nat.add_assoc, primTo_yes hp, h1, List.append_assoc], fun x hx => by
        rcases List.mem_append.1 hx with h | h
        · exact h2 x h
        · rw [List.mem_singleton] at h; omega⟩
    | false => exact ⟨r, by rw [← Nat.add_assoc, primTo_no hp, h1], h2⟩
theorem primTo_takeN (c : Cut) (ds : List Nat) (n : Nat) : ∀ k, k ≤ n → primTo c (ds.take n) k = primTo c ds k
  | 0, _ => rfl
  | k + 1, h => by
    have e := prim_take c ds n (k + 1) h
    cases hp : prim c ds (k + 1) with
    | true => rw [primTo_yes hp, primTo_yes (by rw [e]; exact hp), primTo_takeN c ds n k (by omega)]
    | false => rw [primTo_no hp, primTo_no (by rw [e]; exact hp), primTo_takeN c ds n k (by omega)]
theorem prefix_facts (c : Cut) (ds : List Nat) (k : Nat) (hk : k ≤ ds.length) : primTo c (ds.take k) (ds.take k).length = primTo c ds k ∧ (primTo c ds k).length ≤ (primTo c ds ds.length).length ∧ (primTo c ds ds.length).take (primTo c ds k).length = primTo c ds k ∧
    ((primTo c ds k).length < (primTo c ds ds.length).length → k < (primTo c ds ds.length).getD (primTo c ds k).length 0) := by
  obtain ⟨r, h1, h2⟩ := primTo_split c ds k (ds.length - k)
  rw [show k + (ds.length - k) = ds.length by omega] at h1
  refine ⟨by rw [List.length_take, Nat.min_eq_left hk, primTo_takeN c ds k k (Nat.le_refl _)], by rw [h1, List.length_append]; omega, by rw [h1, List.take_left], fun h => ?_⟩
  rw [h1, List.length_append] at h
  rw [h1, List.getD_eq_getElem?_getD, List.getElem?_append_right (Nat.le_refl _), Nat.sub_self, List.getElem?_eq_getElem (by omega)]
  exact h2 _ (List.getElem_mem _)

theorem Inv.drew {w W : World} {mn mx win bits : Int} {s : BitVec 64} (h : Inv w W mn mx win bits s) : Inv w W.drew mn mx win bits s := h.drewN 1
theorem _root_.Go.RowKit.Below.undrew {B : Nat} {w w' : World} (h : Below B w.drew w') : Below B w w' := ((Below.refl B w).drew).trans h
theorem primary_k (c : Cut) (hk : c.Ok) (a : Option Addr) (cap : Nat) (ds zs : List Nat) (k : Nat) (hl : ds.length = k) (hk2 : k ≤ 1000000) (hz : primTo c ds ds.length = zs) (w : World) (h : BytesAt w a ds) (hT : TabAt 0 Lib.deBruijn64tab w) :
    Calls Tryd.prog 48 #[.agg #[.int .i64 c.mn, .int .i64 c.mx, .int .i64 c.win, .int .i64 c.bits, .int .u64 (u c.seed)], .slice a k cap] w fun e w' =>
      ∃ a' cap', e = .returned (.tuple #[.slice a' zs.length cap', .int .i64 0]) ∧ IntsAt w' a' zs ∧ Below w.heap.size w w' ∧ zs.length ≤ cap' ∧ (a' = none → cap' = 0) := by
  subst hl
  subst hz
  refine (primary_any c hk a cap ds hk2 w h hT).mono ?_
  rintro e w' ⟨v, rfl, ho, hb⟩
  obtain ⟨_, a', cap', rfl, h1, _, hi, h2⟩ := ints_of_own ho
  exact ⟨a', cap', rfl, hi, hb, h1, h2⟩

set_option maxRecDepth 100000 in
set_option maxHeartbeats 1000000 in
theorem walk_ChunkerPrefix (mn mx win bits : Int) (s : BitVec 64) (a : Option Addr) (cap : Nat) (bs : List Nat) (n : Int) (w : World) (hB : BytesAt w a bs) (hcap : bs.length ≤ cap) (hnil : a = none → cap = 0) (hl : bs.length ≤ 140737488351232) (hT : TabAt 0 Lib.deBruijn64tab w) :
    Calls Tryd.prog 15 #[.agg #[.int .i64 mn, .int .i64 mx, .int .i64 win, .int .i64 bits, .int .u64 (u s)], .slice a bs.length cap, .int .i64 n] w fun e w' => e = .returned (.bool true) ∧ Below w.heap.size w w' := by
  have HT := Lib.hid hT
  have HBY := Lib.hid hB
  have HCAP := Lib.hid hcap
  clear hT hB hcap
  go_enter Tryd.func15, Tryd.ntmps15
  go_wp2_with fail
  refine (refValid_any mn mx win bits s _).mono ?_
  rintro e w1 ⟨rfl, hb⟩
  have I1 := Lib.hid ((Inv.new w mn mx win bits s).step hb)
  clear hb
  cases hv : validB mn mx win bits with
  | false =>
    clear hv
    go_wp2_with fail
    refine (awake16 w1 (I1.out.tab HT.out)).mono ?_
    rintro e w3 ⟨rfl, hb3⟩
    have I3 := Lib.hid (I1.out.step hb3)
    clear hb3
    go_wp2_with fail
    go_ret
    exact ⟨rfl, I3.out.b⟩
  | true =>
    have hv2 := hv
    clear hv
    go_wp2_with fail
    refine (few1_any w1 a bs.length cap).mono ?_
    rintro e w2 ⟨rfl, he2⟩
    have I2 : Hid (Inv w w2 mn mx win bits s) := by rw [← he2]; exact I1.out.alloc _
    clear he2 I1
    by_cases h3 : bs.length ≤ 300
    · rw [decide_eq_true h3]
      obtain ⟨c, hk, rfl, rfl, rfl, rfl, rfl⟩ := cut_of_valid s hv2
      have HK := Lib.hid hk
      clear hk hv2
      by_cases hn0 : n < 0
      · go_wp2_with fail
        refine (awake16 w2 (I2.out.tab HT.out)).mono ?_
        rintro e w3 ⟨rfl, hb3⟩
        have I3 := Lib.hid (I2.out.step hb3)
        clear hb3
        go_wp2_with fail
        go_ret
        exact ⟨rfl, I3.out.b⟩
      · obtain ⟨k, rfl⟩ : ∃ k : Nat, n = k := ⟨n.toNat, by omega⟩
        by_cases hn1 : (bs.length : Int) < (k : Int)
        · go_wp2_with fail
          refine (awake16 w2 (I2.out.tab HT.out)).mono ?_
          rintro e w3 ⟨rfl, hb3⟩
          have I3 := Lib.hid (I2.out.step hb3)
          clear hb3
          go_wp2_with fail
          go_ret
          exact ⟨rfl, I3.out.b⟩
        · have hk2 : k ≤ bs.length := by omega
          obtain ⟨c0, c1, c2, c3, c4⟩ := I2.out.x
          obtain ⟨f1, f2, f3, f4⟩ := prefix_facts c bs k hk2
          have hlp := primTo_len c bs
          obtain ⟨P, hP⟩ : ∃ P, primTo c bs bs.length = P := ⟨_, rfl⟩
          obtain ⟨Q, hQ⟩ : ∃ Q, primTo c bs k = Q := ⟨_, rfl⟩
          rw [hQ] at f1 f2 f3 f4
          rw [hP] at f2 f3 f4 hlp
          have HP := Lib.hid hP
          have F1 := Lib.hid f1
          have F3 := Lib.hid f3
          have F4 := Lib.hid f4
          clear hP hQ f1 f3 f4
          have hsl := slice_h a bs.length cap k (by have := HCAP.out; omega)
          have hlk : (bs.take k).length = k := by rw [List.length_take]; omega
          have hsub : Hid (∀ W, BytesAt W a bs → BytesAt W (subA a 0 cap) (bs.take k)) := fun W hW => by have := bytesAt_sub hW HCAP.out 0 k; rwa [List.drop_zero] at this
          go_wp2_with fail
          refine (primary_k c HK.out a cap bs P bs.length rfl (by omega) HP.out w2 (HBY.out.later I2.out.b) (I2.out.tab HT.out)).mono ?_
          rintro e w3 ⟨a3, cap3, rfl, hi3, hb3, hle3, hn3⟩
          have I3 := Lib.hid (I2.out.step hb3)
          have HI3 := Lib.hid hi3
          have HN3 := Lib.hid hn3
          clear hb3 hi3 hn3 c0 c1 c2 c3 c4
          obtain ⟨c0, c1, c2, c3, c4⟩ := I3.out.x
          go_upto_region 4 with fail
          go_region_held3 (fun w' => w'.cell? ⟨w.heap.size, 0, none⟩ = some (.int .i64 c.mn) ∧ w'.cell? ⟨w.heap.size, 1, none⟩ = some (.int .i64 c.mx) ∧ w'.cell? ⟨w.heap.size, 2, none⟩ = some (.int .i64 c.win) ∧ w'.cell? ⟨w.heap.size, 3, none⟩ = some (.int .i64 c.bits) ∧ w'.cell? ⟨w.heap.size, 4, none⟩ = some (.int .u64 (u c.seed))) (go_keep)
            (first | (go_at_call 48; refine (primary_k c HK.out (subA a 0 cap) cap (bs.take k) Q k hlk (by omega) F1.out w3.drew (hsub.out _ (HBY.out.later I3.out.drew.b)) (I3.out.drew.tab HT.out)).mono ?_; rintro e w4 ⟨a4, cap4, rfl, hi4, hb4, hle4, hn4⟩; have I4 := Lib.hid (I3.out.drew.step hb4); have HI4 := Lib.hid hi4; have HI34 := Lib.hid (HI3.out.later (hb4.undrew)); obtain ⟨d0, d1, d2, d3, d4⟩ := I4.out.x; clear hb4 hi4 hn4))
          have hsl2 := slice_h57 a3 P.length cap3 Q.length (by omega)
          clear hsl hsub c0 c1 c2 c3 c4 d0 d1 d2 d3 d4
          have HSU := Lib.hid (intsAt_sub HI34.out hle3 Q.length)
          have HTK : Hid ((P.take Q.length) = Q) := F3
          by_cases hlt : Q.length < P.length
          · obtain ⟨b, o, rfl, hcell⟩ := HI34.out.some (by omega)
            have hck := hcell Q.length hlt
            have hx := F4.out hlt
            generalize P.getD Q.length 0 = x at hck hx
            have hx2 : ¬ (x : Int) ≤ (k : Int) := by omega
            clear hcell
            go_wp2_with fail
            refine (awake16 w4 (I4.out.tab HT.out)).mono ?_
            rintro e w5 ⟨rfl, hb5⟩
            have I5 := Lib.hid (I4.out.step hb5)
            have HI5 := Lib.hid (HI4.out.later hb5)
            have HS5 := Lib.hid (HSU.out.later hb5)
            rw [HTK.out] at HS5
            clear hb5 hck
            go_wp2_with fail
            refine (ints_any (subA (some ⟨b, o, none⟩) 0 cap3) a4 cap3 cap4 Q Q (by omega) (by omega) w5 HS5.out HI5.out).mono ?_
            rintro e w6 ⟨rfl, hb6⟩
            have I6 := Lib.hid (I5.out.step hb6)
            rw [decide_eq_true rfl]
            clear hb6
            go_wp2_with fail
            go_ret
            exact ⟨rfl, I6.out.b⟩
          · have hlt2 : ¬ (Q.length : Int) < (P.length : Int) := by omega
            go_wp2_with fail
            refine (awake16 w4 (I4.out.tab HT.out)).mono ?_
            rintro e w5 ⟨rfl, hb5⟩
            have I5 := Lib.hid (I4.out.step hb5)
            have HI5 := Lib.hid (HI4.out.later hb5)
            have HS5 := Lib.hid (HSU.out.later hb5)
            rw [HTK.out] at HS5
            clear hb5
            go_wp2_with fail
            refine (ints_any (subA a3 0 cap3) a4 cap3 cap4 Q Q (by omega) (by omega) w5 HS5.out HI5.out).mono ?_
            rintro e w6 ⟨rfl, hb6⟩
            have I6 := Lib.hid (I5.out.step hb6)
            rw [decide_eq_true rfl]
            clear hb6
            go_wp2_with fail
            go_ret
            exact ⟨rfl, I6.out.b⟩
    · rw [decide_eq_false h3]
      go_wp2_with fail
      refine (awake16 w2 (I2.out.tab HT.out)).mono ?_
      rintro e w3 ⟨rfl, hb3⟩
      have I3 := Lib.hid (I2.out.step hb3)
      clear hb3
      go_wp2_with fail
      go_ret
      exact ⟨rfl, I3.out.b⟩
end Go.Proofs.YtfnhcjcahcacnaaDoor
