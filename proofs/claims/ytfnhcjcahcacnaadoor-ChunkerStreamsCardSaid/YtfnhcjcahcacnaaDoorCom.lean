/- Common: how many chunks two contents share. -/
import Derived.Test.YtfnhcjcahcacnaaDoorBad
namespace Go.Proofs.YtfnhcjcahcacnaaDoor
open Go.RowKit
open Roll (u)
open Kit (Chg)
open Chk

/-- i is how many chunks agree at the beginning. -/
def Lcp (X Y : List (List Nat)) (i : Nat) : Prop := i ≤ min X.length Y.length ∧ (∀ j, j < i → X.getD j [] = Y.getD j []) ∧ (i < min X.length Y.length → X.getD i [] ≠ Y.getD i [])
/-- k is how many of the others agree at the end. -/
def Lcs (X Y : List (List Nat)) (i k : Nat) : Prop := i + k ≤ min X.length Y.length ∧ (∀ j, j < k → X.getD (X.length - 1 - j) [] = Y.getD (Y.length - 1 - j) []) ∧ (i + k < min X.length Y.length → X.getD (X.length - 1 - k) [] ≠ Y.getD (Y.length - 1 - k) [])
theorem Lcp.one {X Y : List (List Nat)} {i j : Nat} (h : Lcp X Y i) (h' : Lcp X Y j) : i = j := by
  obtain ⟨a1, a2, a3⟩ := h
  obtain ⟨b1, b2, b3⟩ := h'
  rcases Nat.lt_trichotomy i j with h | h | h
  · exact absurd (b2 i h) (a3 (by omega))
  · exact h
  · exact absurd (a2 j h) (b3 (by omega))
theorem Lcs.one {X Y : List (List Nat)} {i k l : Nat} (h : Lcs X Y i k) (h' : Lcs X Y i l) : k = l := by
  obtain ⟨a1, a2, a3⟩ := h
  obtain ⟨b1, b2, b3⟩ := h'
  rcases Nat.lt_trichotomy k l with h | h | h
  · exact absurd (b2 k h) (a3 (by omega))
  · exact h
  · exact absurd (a2 l h) (b3 (by omega))
theorem equal_diff (a a' : Option Addr) (cap cap' : Nat) (bs cs : List Nat) (hne : ¬ bs = cs) (w : World) (h : BytesAt w a bs) (h' : BytesAt w a' cs) :
    Calls Tryd.prog 67 #[.slice a bs.length cap, .slice a' cs.length cap'] w fun e w' => e = .returned (.bool false) ∧ w = w' := by
  have := equal_any a a' cap cap' bs cs w h h'
  rwa [decide_eq_false hne] at this
theorem check_two2 (c : Cut) (hk : c.Ok) (B : Nat) (a a' : Option Addr) (n m n' m' : Nat) (hn : n ≤ 1048576) (hn' : n' ≤ 1048576) (w : World) (h : SlicesAt w B [(a, n, m), (a', n', m')]) :
    Calls Tryd.prog 63 #[.agg #[.int .i64 c.mn, .int .i64 c.mx, .int .i64 c.win, .int .i64 c.bits, .int .u64 (u c.seed)], .slice (some ⟨B, 0, none⟩) 2 2] w fun e w' => e = .returned (.int .i64 0) ∧ Below w.heap.size w w' :=
  check_ok c.mn c.mx c.win c.bits c.seed B 2 [(a, n, m), (a', n', m')] (by simp) (by intro x hx; simp at hx; rcases hx with h | h <;> rw [h] <;> assumption) (valid_of hk) w h

set_option maxRecDepth 100000 in
set_option maxHeartbeats 4000000 in
theorem common_any (c : Cut) (hk : c.Ok) (a a' : Option Addr) (cap cap' : Nat) (ds ds' : List Nat) (X Y : List (List Nat)) (hX : chunks c ds = X) (hY : chunks c ds' = Y) (hl : ds.length ≤ 300) (hcap : ds.length ≤ cap) (hl' : ds'.length ≤ 300) (hcap' : ds'.length ≤ cap') (w : World) (h : BytesAt w a ds) (h' : BytesAt w a' ds') (hT : TabAt 0 Lib.deBruijn64tab w) :
    Calls Tryd.prog 55 #[.agg #[.int .i64 c.mn, .int .i64 c.mx, .int .i64 c.win, .int .i64 c.bits, .int .u64 (u c.seed)], .slice a ds.length cap, .slice a' ds'.length cap'] w fun e w' => (∃ i k : Nat, e = .returned (.tuple #[.int .i64 (i : Int), .int .i64 (k : Int), .int .i64 0]) ∧ Lcp X Y i ∧ Lcs X Y i k) ∧ Below w.heap.size w w' := by
  have HH := Lib.hid h
  have HT := Lib.hid hT
  have HK := Lib.hid hk
  have HCAP := Lib.hid hcap
  have HH' := Lib.hid h'
  have HCAP' := Lib.hid hcap'
  have HX := Lib.hid hX
  have HY := Lib.hid hY
  have hxl : X.length ≤ 300 := by rw [← hX]; have := chunks_len c ds; omega
  have hyl : Y.length ≤ 300 := by rw [← hY]; have := chunks_len c ds'; omega
  clear h hT hk hcap h' hcap' hX hY
  go_enter Tryd.func55, Tryd.ntmps55
  go_wp2_with fail
  have hsl : Hid (SlicesAt ((w.alloc (.cells #[.int .i64 c.mn, .int .i64 c.mx, .int .i64 c.win, .int .i64 c.bits, .int .u64 (u c.seed)] 48)).alloc (.cells #[.slice a ds.length cap, .slice a' ds'.length cap'] 28)) (w.heap.size + 1) [(a, ds.length, cap), (a', ds'.length, cap')]) := by
    have h := slices2 (w.alloc (.cells #[.int .i64 c.mn, .int .i64 c.mx, .int .i64 c.win, .int .i64 c.bits, .int .u64 (u c.seed)] 48)) a a' ds.length cap ds'.length cap'
    rw [World.size_alloc] at h
    exact h
  refine (check_two2 c HK.out (w.heap.size + 1) a a' ds.length cap ds'.length cap' (by omega) (by omega) _ hsl.out).mono ?_
  rintro e w1 ⟨rfl, hb⟩
  have I1 := Lib.hid (((Inv.new w c.mn c.mx c.win c.bits c.seed).alloc _).step hb)
  obtain ⟨c0, c1, c2, c3, c4⟩ := I1.out.x
  clear hb
  go_wp2_with fail
  refine (split_z c HK.out a cap ds X HX.out (by omega) HCAP.out w1 (HH.out.later I1.out.b) (I1.out.tab HT.out)).mono ?_
  rintro e w2 ⟨a2, cap2, rfl, hl2, _, hb2, _⟩
  have I2 := Lib.hid (I1.out.step hb2)
  have HL2 := Lib.hid hl2
  clear hb2 hl2 c0 c1 c2 c3 c4
  obtain ⟨c0, c1, c2, c3, c4⟩ := I2.out.x
  go_wp2_with fail
  refine (split_z c HK.out a' cap' ds' Y HY.out (by omega) HCAP'.out w2 (HH'.out.later I2.out.b) (I2.out.tab HT.out)).mono ?_
  rintro e w3 ⟨a3, cap3, rfl, hl3, _, hb3, _⟩
  have I3 := Lib.hid (I2.out.step hb3)
  have HL3 := Lib.hid hl3
  have HL23 := Lib.hid (HL2.out.later hb3)
  clear hb3 hl3 c0 c1 c2 c3 c4
  by_cases hYX : (Y.length : Int) < (X.length : Int)
  · have HM : Hid (min X.length Y.length = Y.length) := Nat.min_eq_right (by omega)
    go_wp2_with fail
    go_loopw [15] (fun i wr => ∃ k : Nat, k ≤ Y.length ∧ i = .int .i64 k ∧ Drawn w3 wr ∧ Hid (∀ j, j < k → X.getD j [] = Y.getD j [])) (fun i _ => Y.length - (intOf i).toNat)
    case atStart => exact ⟨0, Nat.zero_le _, rfl, Drawn.refl _, fun j hj => by omega⟩
    case round =>
      obtain ⟨k, hk, rfl, hdr, HE⟩ := hrel
      obtain ⟨q, rfl⟩ := hdr
      by_cases hlt : k < Y.length
      · obtain ⟨b, o, hea, hc⟩ := HL23.out.some (by omega)
        obtain ⟨b', o', hea', hc'⟩ := HL3.out.some (by omega)
        subst hea
        subst hea'
        obtain ⟨ai, ci, hck, hbi, _⟩ := hc k (by omega)
        obtain ⟨ai', ci', hck', hbi', _⟩ := hc' k (by omega)
        have HBI := Lib.hid hbi
        have HBI' := Lib.hid hbi'
        have HS : Hid (X.getD k [] = Y.getD k [] → ∀ j, j < k + 1 → X.getD j [] = Y.getD j []) := fun e j hj => by
          by_cases h : j = k
          · rw [h]; exact e
          · exact HE.out j (by omega)
        have HN : Hid (X.getD k [] ≠ Y.getD k [] → Lcp X Y k) := fun e => ⟨by have := HM.out; omega, HE.out, fun _ => e⟩
        clear hc hc' hbi hbi'
        generalize X.getD k [] = x at hck HBI HS HN
        generalize Y.getD k [] = y at hck' HBI' HS HN
        by_cases hxy : x = y
        · have HS2 := Lib.hid (HS.out hxy)
          subst hxy
          clear HS HN
          go_wp2_with fail
          go_quiet ((go_at_call 67; exact quiet2 (equal_same ai ai' ci ci' x _ (HBI.out.later (below_drewN (Below.refl _ _) _)) (HBI'.out.later (below_drewN (Below.refl _ _) _)))))
          go_wp2
          go_roundw
          case rel => exact ⟨k + 1, by omega, by go_num, by first | exact ⟨_, rfl⟩ | exact Drawn.drewN ⟨_, rfl⟩ _, HS2.out⟩
          case measure => simp [intOf]; omega
        · have HP := Lib.hid (HN.out hxy)
          go_wp2_with fail
          go_quiet ((go_at_call 67; exact quiet2 (equal_diff ai ai' ci ci' x y hxy _ (HBI.out.later (below_drewN (Below.refl _ _) _)) (HBI'.out.later (below_drewN (Below.refl _ _) _)))))
          clear hck hck' HBI HBI' HS HN hxy
          go_wp2
          go_loopw [16] (fun i wr => ∃ l : Nat, k + l ≤ Y.length ∧ i = .int .i64 l ∧ Drawn w3 wr ∧ Hid (∀ j, j < l → X.getD (X.length - 1 - j) [] = Y.getD (Y.length - 1 - j) [])) (fun i _ => Y.length - (intOf i).toNat)
          case atStart => exact ⟨0, by omega, rfl, by first | exact ⟨_, rfl⟩ | exact Drawn.drewN ⟨_, rfl⟩ _, fun j hj => by omega⟩
          case round =>
            obtain ⟨l, hk2, rfl, hdr, HE2⟩ := hrel
            obtain ⟨q2, rfl⟩ := hdr
            by_cases hlt2 : k + l < Y.length
            · have hlt2i : ((k : Int) : Int) + (l : Int) < (Y.length : Int) := by omega
              obtain ⟨p, hp⟩ : ∃ p, X.length - 1 - l = p := ⟨_, rfl⟩
              obtain ⟨p', hp'⟩ : ∃ p', Y.length - 1 - l = p' := ⟨_, rfl⟩
              have hpi : (X.length : Int) - 1 - (l : Int) = (p : Int) := by omega
              have hpi' : (Y.length : Int) - 1 - (l : Int) = (p' : Int) := by omega
              have hpl : p < X.length := by omega
              have hpl' : p' < Y.length := by omega
              obtain ⟨b2, o2, e2, hc⟩ := HL23.out.some (by omega)
              cases e2
              obtain ⟨b3, o3, e3, hc'⟩ := HL3.out.some (by omega)
              cases e3
              obtain ⟨ai, ci, hck, hbi, _⟩ := hc p hpl
              obtain ⟨ai', ci', hck', hbi', _⟩ := hc' p' hpl'
              have HBI := Lib.hid hbi
              have HBI' := Lib.hid hbi'
              have HS : Hid (X.getD p [] = Y.getD p' [] → ∀ j, j < l + 1 → X.getD (X.length - 1 - j) [] = Y.getD (Y.length - 1 - j) []) := fun e j hj => by
                by_cases h : j = l
                · rw [h, hp, hp']; exact e
                · exact HE2.out j (by omega)
              have HN : Hid (X.getD p [] ≠ Y.getD p' [] → Lcs X Y k l) := fun e => ⟨by have := HM.out; omega, HE2.out, fun _ => by rw [hp, hp']; exact e⟩
              clear hc hc' hbi hbi' hp hp'
              generalize X.getD p [] = x at hck HBI HS HN
              generalize Y.getD p' [] = y at hck' HBI' HS HN
              by_cases hxy : x = y
              · have HS2 := Lib.hid (HS.out hxy)
                subst hxy
                clear HS HN
                go_wp2_with fail
                go_quiet ((go_at_call 67; exact quiet2 (equal_same ai ai' ci ci' x _ (HBI.out.later (below_drewN (Below.refl _ _) _)) (HBI'.out.later (below_drewN (Below.refl _ _) _)))))
                go_wp2
                go_roundw
                case rel => exact ⟨l + 1, by omega, by go_num, by first | exact ⟨_, rfl⟩ | exact Drawn.drewN ⟨_, rfl⟩ _, HS2.out⟩
                case measure => simp [intOf]; omega
              · have HQ := Lib.hid (HN.out hxy)
                go_wp2_with fail
                go_quiet ((go_at_call 67; exact quiet2 (equal_diff ai ai' ci ci' x y hxy _ (HBI.out.later (below_drewN (Below.refl _ _) _)) (HBI'.out.later (below_drewN (Below.refl _ _) _)))))
                go_wp2
                go_ret3
                exact ⟨⟨k, l, rfl, HP.out, HQ.out⟩, by first | exact I3.out.b.trans (below_drewN (Below.refl _ _) _) | exact I3.out.b.trans (below_drewN (below_drewN (Below.refl _ _) _) _)⟩
            · have HQ : Hid (Lcs X Y k l) := ⟨by have := HM.out; omega, HE2.out, fun h => by have := HM.out; omega⟩
              have hlt2i : ¬ (((k : Nat) : Int) + (l : Int) < ((Y.length : Nat) : Int)) := by omega
              go_wp2_with (go_quiet (fail))
              go_ret3
              exact ⟨⟨k, l, rfl, HP.out, HQ.out⟩, by first | exact I3.out.b.trans (below_drewN (Below.refl _ _) _) | exact I3.out.b.trans (below_drewN (below_drewN (Below.refl _ _) _) _)⟩
      · have e : k = Y.length := by omega
        have HE3 : ∀ j, j < Y.length → X.getD j [] = Y.getD j [] := e ▸ HE.out
        have HP : Hid (Lcp X Y Y.length) := ⟨by have := HM.out; omega, HE3, fun h => by have := HM.out; omega⟩
        clear HE3
        subst e
        go_wp2_with (go_quiet (fail))
        go_loopw [16] (fun i wr => ∃ l : Nat, Y.length + l ≤ Y.length ∧ i = .int .i64 l ∧ Drawn w3 wr ∧ Hid (∀ j, j < l → X.getD (X.length - 1 - j) [] = Y.getD (Y.length - 1 - j) [])) (fun i _ => Y.length - (intOf i).toNat)
        case atStart => exact ⟨0, by omega, rfl, by first | exact ⟨_, rfl⟩ | exact Drawn.drewN ⟨_, rfl⟩ _, fun j hj => by omega⟩
        case round =>
          obtain ⟨l, hk2, rfl, hdr, HE2⟩ := hrel
          obtain ⟨q2, rfl⟩ := hdr
          by_cases hlt2 : Y.length + l < Y.length
          · have hlt2i : ((Y.length : Int) : Int) + (l : Int) < (Y.length : Int) := by omega
            obtain ⟨p, hp⟩ : ∃ p, X.length - 1 - l = p := ⟨_, rfl⟩
            obtain ⟨p', hp'⟩ : ∃ p', Y.length - 1 - l = p' := ⟨_, rfl⟩
            have hpi : (X.length : Int) - 1 - (l : Int) = (p : Int) := by omega
            have hpi' : (Y.length : Int) - 1 - (l : Int) = (p' : Int) := by omega
            have hpl : p < X.length := by omega
            have hpl' : p' < Y.length := by omega
            obtain ⟨b, o, rfl, hc⟩ := HL23.out.some (by omega)
            obtain ⟨b', o', rfl, hc'⟩ := HL3.out.some (by omega)
            obtain ⟨ai, ci, hck, hbi, _⟩ := hc p hpl
            obtain ⟨ai', ci', hck', hbi', _⟩ := hc' p' hpl'
            have HBI := Lib.hid hbi
            have HBI' := Lib.hid hbi'
            have HS : Hid (X.getD p [] = Y.getD p' [] → ∀ j, j < l + 1 → X.getD (X.length - 1 - j) [] = Y.getD (Y.length - 1 - j) []) := fun e j hj => by
              by_cases h : j = l
              · rw [h, hp, hp']; exact e
              · exact HE2.out j (by omega)
            have HN : Hid (X.getD p [] ≠ Y.getD p' [] → Lcs X Y Y.length l) := fun e => ⟨by have := HM.out; omega, HE2.out, fun _ => by rw [hp, hp']; exact e⟩
            clear hc hc' hbi hbi' hp hp'
            generalize X.getD p [] = x at hck HBI HS HN
            generalize Y.getD p' [] = y at hck' HBI' HS HN
            by_cases hxy : x = y
            · have HS2 := Lib.hid (HS.out hxy)
              subst hxy
              clear HS HN
              go_wp2_with fail
              go_quiet ((go_at_call 67; exact quiet2 (equal_same ai ai' ci ci' x _ (HBI.out.later (below_drewN (Below.refl _ _) _)) (HBI'.out.later (below_drewN (Below.refl _ _) _)))))
              go_wp2
              go_roundw
              case rel => exact ⟨l + 1, by omega, by go_num, by first | exact ⟨_, rfl⟩ | exact Drawn.drewN ⟨_, rfl⟩ _, HS2.out⟩
              case measure => simp [intOf]; omega
            · have HQ := Lib.hid (HN.out hxy)
              go_wp2_with fail
              go_quiet ((go_at_call 67; exact quiet2 (equal_diff ai ai' ci ci' x y hxy _ (HBI.out.later (below_drewN (Below.refl _ _) _)) (HBI'.out.later (below_drewN (Below.refl _ _) _)))))
              go_wp2
              go_ret3
              exact ⟨⟨Y.length, l, rfl, HP.out, HQ.out⟩, by first | exact I3.out.b.trans (below_drewN (Below.refl _ _) _) | exact I3.out.b.trans (below_drewN (below_drewN (Below.refl _ _) _) _)⟩
          · have HQ : Hid (Lcs X Y Y.length l) := ⟨by have := HM.out; omega, HE2.out, fun h => by have := HM.out; omega⟩
            have hlt2i : ¬ (((Y.length : Nat) : Int) + (l : Int) < ((Y.length : Nat) : Int)) := by omega
            go_wp2_with (go_quiet (fail))
            go_ret3
            exact ⟨⟨Y.length, l, rfl, HP.out, HQ.out⟩, by first | exact I3.out.b.trans (below_drewN (Below.refl _ _) _) | exact I3.out.b.trans (below_drewN (below_drewN (Below.refl _ _) _) _)⟩
  · have HM : Hid (min X.length Y.length = X.length) := Nat.min_eq_left (by omega)
    go_wp2_with fail
    go_loopw [15] (fun i wr => ∃ k : Nat, k ≤ X.length ∧ i = .int .i64 k ∧ Drawn w3 wr ∧ Hid (∀ j, j < k → X.getD j [] = Y.getD j [])) (fun i _ => X.length - (intOf i).toNat)
    case atStart => exact ⟨0, Nat.zero_le _, rfl, Drawn.refl _, fun j hj => by omega⟩
    case round =>
      obtain ⟨k, hk, rfl, hdr, HE⟩ := hrel
      obtain ⟨q, rfl⟩ := hdr
      by_cases hlt : k < X.length
      · obtain ⟨b, o, hea, hc⟩ := HL23.out.some (by omega)
        obtain ⟨b', o', hea', hc'⟩ := HL3.out.some (by omega)
        subst hea
        subst hea'
        obtain ⟨ai, ci, hck, hbi, _⟩ := hc k (by omega)
        obtain ⟨ai', ci', hck', hbi', _⟩ := hc' k (by omega)
        have HBI := Lib.hid hbi
        have HBI' := Lib.hid hbi'
        have HS : Hid (X.getD k [] = Y.getD k [] → ∀ j, j < k + 1 → X.getD j [] = Y.getD j []) := fun e j hj => by
          by_cases h : j = k
          · rw [h]; exact e
          · exact HE.out j (by omega)
        have HN : Hid (X.getD k [] ≠ Y.getD k [] → Lcp X Y k) := fun e => ⟨by have := HM.out; omega, HE.out, fun _ => e⟩
        clear hc hc' hbi hbi'
        generalize X.getD k [] = x at hck HBI HS HN
        generalize Y.getD k [] = y at hck' HBI' HS HN
        by_cases hxy : x = y
        · have HS2 := Lib.hid (HS.out hxy)
          subst hxy
          clear HS HN
          go_wp2_with fail
          go_quiet ((go_at_call 67; exact quiet2 (equal_same ai ai' ci ci' x _ (HBI.out.later (below_drewN (Below.refl _ _) _)) (HBI'.out.later (below_drewN (Below.refl _ _) _)))))
          go_wp2
          go_roundw
          case rel => exact ⟨k + 1, by omega, by go_num, by first | exact ⟨_, rfl⟩ | exact Drawn.drewN ⟨_, rfl⟩ _, HS2.out⟩
          case measure => simp [intOf]; omega
        · have HP := Lib.hid (HN.out hxy)
          go_wp2_with fail
          go_quiet ((go_at_call 67; exact quiet2 (equal_diff ai ai' ci ci' x y hxy _ (HBI.out.later (below_drewN (Below.refl _ _) _)) (HBI'.out.later (below_drewN (Below.refl _ _) _)))))
          clear hck hck' HBI HBI' HS HN hxy
          go_wp2
          go_loopw [16] (fun i wr => ∃ l : Nat, k + l ≤ X.length ∧ i = .int .i64 l ∧ Drawn w3 wr ∧ Hid (∀ j, j < l → X.getD (X.length - 1 - j) [] = Y.getD (Y.length - 1 - j) [])) (fun i _ => X.length - (intOf i).toNat)
          case atStart => exact ⟨0, by omega, rfl, by first | exact ⟨_, rfl⟩ | exact Drawn.drewN ⟨_, rfl⟩ _, fun j hj => by omega⟩
          case round =>
            obtain ⟨l, hk2, rfl, hdr, HE2⟩ := hrel
            obtain ⟨q2, rfl⟩ := hdr
            by_cases hlt2 : k + l < X.length
            · have hlt2i : ((k : Int) : Int) + (l : Int) < (X.length : Int) := by omega
              obtain ⟨p, hp⟩ : ∃ p, X.length - 1 - l = p := ⟨_, rfl⟩
              obtain ⟨p', hp'⟩ : ∃ p', Y.length - 1 - l = p' := ⟨_, rfl⟩
              have hpi : (X.length : Int) - 1 - (l : Int) = (p : Int) := by omega
              have hpi' : (Y.length : Int) - 1 - (l : Int) = (p' : Int) := by omega
              have hpl : p < X.length := by omega
              have hpl' : p' < Y.length := by omega
              obtain ⟨b2, o2, e2, hc⟩ := HL23.out.some (by omega)
              cases e2
              obtain ⟨b3, o3, e3, hc'⟩ := HL3.out.some (by omega)
              cases e3
              obtain ⟨ai, ci, hck, hbi, _⟩ := hc p hpl
              obtain ⟨ai', ci', hck', hbi', _⟩ := hc' p' hpl'
              have HBI := Lib.hid hbi
              have HBI' := Lib.hid hbi'
              have HS : Hid (X.getD p [] = Y.getD p' [] → ∀ j, j < l + 1 → X.getD (X.length - 1 - j) [] = Y.getD (Y.length - 1 - j) []) := fun e j hj => by
                by_cases h : j = l
                · rw [h, hp, hp']; exact e
                · exact HE2.out j (by omega)
              have HN : Hid (X.getD p [] ≠ Y.getD p' [] → Lcs X Y k l) := fun e => ⟨by have := HM.out; omega, HE2.out, fun _ => by rw [hp, hp']; exact e⟩
              clear hc hc' hbi hbi' hp hp'
              generalize X.getD p [] = x at hck HBI HS HN
              generalize Y.getD p' [] = y at hck' HBI' HS HN
              by_cases hxy : x = y
              · have HS2 := Lib.hid (HS.out hxy)
                subst hxy
                clear HS HN
                go_wp2_with fail
                go_quiet ((go_at_call 67; exact quiet2 (equal_same ai ai' ci ci' x _ (HBI.out.later (below_drewN (Below.refl _ _) _)) (HBI'.out.later (below_drewN (Below.refl _ _) _)))))
                go_wp2
                go_roundw
                case rel => exact ⟨l + 1, by omega, by go_num, by first | exact ⟨_, rfl⟩ | exact Drawn.drewN ⟨_, rfl⟩ _, HS2.out⟩
                case measure => simp [intOf]; omega
              · have HQ := Lib.hid (HN.out hxy)
                go_wp2_with fail
                go_quiet ((go_at_call 67; exact quiet2 (equal_diff ai ai' ci ci' x y hxy _ (HBI.out.later (below_drewN (Below.refl _ _) _)) (HBI'.out.later (below_drewN (Below.refl _ _) _)))))
                go_wp2
                go_ret3
                exact ⟨⟨k, l, rfl, HP.out, HQ.out⟩, by first | exact I3.out.b.trans (below_drewN (Below.refl _ _) _) | exact I3.out.b.trans (below_drewN (below_drewN (Below.refl _ _) _) _)⟩
            · have HQ : Hid (Lcs X Y k l) := ⟨by have := HM.out; omega, HE2.out, fun h => by have := HM.out; omega⟩
              have hlt2i : ¬ (((k : Nat) : Int) + (l : Int) < ((X.length : Nat) : Int)) := by omega
              go_wp2_with (go_quiet (fail))
              go_ret3
              exact ⟨⟨k, l, rfl, HP.out, HQ.out⟩, by first | exact I3.out.b.trans (below_drewN (Below.refl _ _) _) | exact I3.out.b.trans (below_drewN (below_drewN (Below.refl _ _) _) _)⟩
      · have e : k = X.length := by omega
        have HE3 : ∀ j, j < X.length → X.getD j [] = Y.getD j [] := e ▸ HE.out
        have HP : Hid (Lcp X Y X.length) := ⟨by have := HM.out; omega, HE3, fun h => by have := HM.out; omega⟩
        clear HE3
        subst e
        go_wp2_with (go_quiet (fail))
        go_loopw [16] (fun i wr => ∃ l : Nat, X.length + l ≤ X.length ∧ i = .int .i64 l ∧ Drawn w3 wr ∧ Hid (∀ j, j < l → X.getD (X.length - 1 - j) [] = Y.getD (Y.length - 1 - j) [])) (fun i _ => X.length - (intOf i).toNat)
        case atStart => exact ⟨0, by omega, rfl, by first | exact ⟨_, rfl⟩ | exact Drawn.drewN ⟨_, rfl⟩ _, fun j hj => by omega⟩
        case round =>
          obtain ⟨l, hk2, rfl, hdr, HE2⟩ := hrel
          obtain ⟨q2, rfl⟩ := hdr
          by_cases hlt2 : X.length + l < X.length
          · have hlt2i : ((X.length : Int) : Int) + (l : Int) < (X.length : Int) := by omega
            obtain ⟨p, hp⟩ : ∃ p, X.length - 1 - l = p := ⟨_, rfl⟩
            obtain ⟨p', hp'⟩ : ∃ p', Y.length - 1 - l = p' := ⟨_, rfl⟩
            have hpi : (X.length : Int) - 1 - (l : Int) = (p : Int) := by omega
            have hpi' : (Y.length : Int) - 1 - (l : Int) = (p' : Int) := by omega
            have hpl : p < X.length := by omega
            have hpl' : p' < Y.length := by omega
            obtain ⟨b, o, rfl, hc⟩ := HL23.out.some (by omega)
            obtain ⟨b', o', rfl, hc'⟩ := HL3.out.some (by omega)
            obtain ⟨ai, ci, hck, hbi, _⟩ := hc p hpl
            obtain ⟨ai', ci', hck', hbi', _⟩ := hc' p' hpl'
            have HBI := Lib.hid hbi
            have HBI' := Lib.hid hbi'
            have HS : Hid (X.getD p [] = Y.getD p' [] → ∀ j, j < l + 1 → X.getD (X.length - 1 - j) [] = Y.getD (Y.length - 1 - j) []) := fun e j hj => by
              by_cases h : j = l
              · rw [h, hp, hp']; exact e
              · exact HE2.out j (by omega)
            have HN : Hid (X.getD p [] ≠ Y.getD p' [] → Lcs X Y X.length l) := fun e => ⟨by have := HM.out; omega, HE2.out, fun _ => by rw [hp, hp']; exact e⟩
            clear hc hc' hbi hbi' hp hp'
            generalize X.getD p [] = x at hck HBI HS HN
            generalize Y.getD p' [] = y at hck' HBI' HS HN
            by_cases hxy : x = y
            · have HS2 := Lib.hid (HS.out hxy)
              subst hxy
              clear HS HN
              go_wp2_with fail
              go_quiet ((go_at_call 67; exact quiet2 (equal_same ai ai' ci ci' x _ (HBI.out.later (below_drewN (Below.refl _ _) _)) (HBI'.out.later (below_drewN (Below.refl _ _) _)))))
              go_wp2
              go_roundw
              case rel => exact ⟨l + 1, by omega, by go_num, by first | exact ⟨_, rfl⟩ | exact Drawn.drewN ⟨_, rfl⟩ _, HS2.out⟩
              case measure => simp [intOf]; omega
            · have HQ := Lib.hid (HN.out hxy)
              go_wp2_with fail
              go_quiet ((go_at_call 67; exact quiet2 (equal_diff ai ai' ci ci' x y hxy _ (HBI.out.later (below_drewN (Below.refl _ _) _)) (HBI'.out.later (below_drewN (Below.refl _ _) _)))))
              go_wp2
              go_ret3
              exact ⟨⟨X.length, l, rfl, HP.out, HQ.out⟩, by first | exact I3.out.b.trans (below_drewN (Below.refl _ _) _) | exact I3.out.b.trans (below_drewN (below_drewN (Below.refl _ _) _) _)⟩
          · have HQ : Hid (Lcs X Y X.length l) := ⟨by have := HM.out; omega, HE2.out, fun h => by have := HM.out; omega⟩
            have hlt2i : ¬ (((X.length : Nat) : Int) + (l : Int) < ((X.length : Nat) : Int)) := by omega
            go_wp2_with (go_quiet (fail))
            go_ret3
            exact ⟨⟨X.length, l, rfl, HP.out, HQ.out⟩, by first | exact I3.out.b.trans (below_drewN (Below.refl _ _) _) | exact I3.out.b.trans (below_drewN (below_drewN (Below.refl _ _) _) _)⟩
end Go.Proofs.YtfnhcjcahcacnaaDoor
