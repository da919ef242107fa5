/- The law ChunkerCommon: the walk. -/
import Derived.Test.YtfnhcjcahcacnaaDoorCom
namespace Go.Proofs.YtfnhcjcahcacnaaDoor
set_option linter.unusedVariables false
set_option linter.unusedSimpArgs false
open Go.RowKit
open Roll (u)
open Kit (Chg)
open Chk

theorem few2_any (w : World) (o : Obj) (a a' : Option Addr) (n m n' m' : Nat) : Calls Tryd.prog 39 #[.slice (some ⟨w.heap.size, 0, none⟩) 2 2] (w.alloc (.cells #[.slice a n m, .slice a' n' m'] 28)) fun e w' => e = .returned (.bool (decide (n ≤ 300 ∧ n' ≤ 300))) ∧ w.alloc (.cells #[.slice a n m, .slice a' n' m'] 28) = w' := by
  have h := few_any w.heap.size 2 [(a, n, m), (a', n', m')] (by simp) _ (slices2 w a a' n m n' m')
  have e : fewB [(a, n, m), (a', n', m')] = decide (n ≤ 300 ∧ n' ≤ 300) := by
    unfold fewB
    by_cases h1 : n ≤ 300 <;> by_cases h2 : n' ≤ 300 <;> simp [h1, h2]
  rw [e] at h
  exact h

theorem lcp_cases {X Y : List (List Nat)} {k : Nat} (h1 : k ≤ X.length) (h2 : k ≤ Y.length) (he : ∀ j, j < k → X.getD j [] = Y.getD j []) (hn : ¬ (k < X.length ∧ k < Y.length ∧ X.getD k [] = Y.getD k [])) : Lcp X Y k :=
  ⟨by omega, he, fun h e => hn ⟨by omega, by omega, e⟩⟩
theorem lcs_cases {X Y : List (List Nat)} {i k : Nat} (h1 : i + k ≤ X.length) (h2 : i + k ≤ Y.length) (he : ∀ j, j < k → X.getD (X.length - 1 - j) [] = Y.getD (Y.length - 1 - j) []) (hn : ¬ (i + k < X.length ∧ i + k < Y.length ∧ X.getD (X.length - 1 - k) [] = Y.getD (Y.length - 1 - k) [])) : Lcs X Y i k :=
  ⟨by omega, he, fun h e => hn ⟨by omega, by omega, e⟩⟩

set_option maxRecDepth 100000 in
set_option maxHeartbeats 4000000 in
theorem walk_ChunkerCommon (mn mx win bits : Int) (s : BitVec 64) (a : Option Addr) (cap : Nat) (bs : List Nat) (a' : Option Addr) (cap' : Nat) (bs' : List Nat) (w : World) (hB : BytesAt w a bs) (hcap : bs.length ≤ cap) (hnil : a = none → cap = 0) (hl : bs.length ≤ 140737488351232)
    (hB' : BytesAt w a' bs') (hcap' : bs'.length ≤ cap') (hnil' : a' = none → cap' = 0) (hl' : bs'.length ≤ 140737488351232) (hT : TabAt 0 Lib.deBruijn64tab w) :
    Calls Tryd.prog 20 #[.agg #[.int .i64 mn, .int .i64 mx, .int .i64 win, .int .i64 bits, .int .u64 (u s)], .slice a bs.length cap, .slice a' bs'.length cap'] w fun e w' => e = .returned (.bool true) ∧ Below w.heap.size w w' := by
  have HT := Lib.hid hT
  have HBY := Lib.hid hB
  have HCAP := Lib.hid hcap
  have HNIL := Lib.hid hnil
  have HBY' := Lib.hid hB'
  have HCAP' := Lib.hid hcap'
  have HNIL' := Lib.hid hnil'
  clear hT hB hcap hB' hcap' hnil hnil'
  go_enter Tryd.func20, Tryd.ntmps20
  go_wp2_with fail
  refine (small_any mn mx win bits s _).mono ?_
  rintro e w1 ⟨rfl, hb⟩
  have I1 := Lib.hid ((Inv.new w mn mx win bits s).step hb)
  clear hb
  cases hv : smallB mn mx win bits with
  | false =>
    clear hv
    go_wp2_with fail
    refine (awake16 w1 (I1.out.tab HT.out)).mono ?_
    rintro e w3 ⟨rfl, hb3⟩
    have I3 := Lib.hid (I1.out.step hb3)
    clear hb3
    go_wp2_with fail
    go_ret
    exact ⟨rfl, I3.out.b⟩
  | true =>
    have hv2 := valid_of_small hv
    clear hv
    go_wp2_with fail
    refine (few2_any w1 (.cells #[] 0) a a' bs.length cap bs'.length cap').mono ?_
    rintro e w2 ⟨rfl, he2⟩
    have I2 : Hid (Inv w w2 mn mx win bits s) := by rw [← he2]; exact I1.out.alloc _
    clear he2 I1
    by_cases h3 : bs.length ≤ 300 ∧ bs'.length ≤ 300
    · rw [decide_eq_true h3]
      obtain ⟨h31, h32⟩ := h3
      obtain ⟨c, hk, rfl, rfl, rfl, rfl, rfl⟩ := cut_of_valid s hv2
      have HK := Lib.hid hk
      clear hk hv2
      obtain ⟨X, hX, hxl⟩ : ∃ X, chunks c bs = X ∧ X.length ≤ 300 := ⟨_, rfl, by have := chunks_len c bs; omega⟩
      obtain ⟨Y, hY, hyl⟩ : ∃ Y, chunks c bs' = Y ∧ Y.length ≤ 300 := ⟨_, rfl, by have := chunks_len c bs'; omega⟩
      have HX := Lib.hid hX
      have HY := Lib.hid hY
      clear hX hY
      obtain ⟨c0, c1, c2, c3, c4⟩ := I2.out.x
      go_wp2_with fail
      refine (common_any c HK.out a a' cap cap' bs bs' X Y HX.out HY.out h31 HCAP.out h32 HCAP'.out w2 (HBY.out.later I2.out.b) (HBY'.out.later I2.out.b) (I2.out.tab HT.out)).mono ?_
      rintro e w3 ⟨⟨i0, k0, rfl, hp0, hq0⟩, hb3⟩
      have I3 := Lib.hid (I2.out.step hb3)
      have HP0 := Lib.hid hp0
      have HQ0 := Lib.hid hq0
      clear hb3 hp0 hq0 c0 c1 c2 c3 c4
      obtain ⟨c0, c1, c2, c3, c4⟩ := I3.out.x
      go_upto_region 4 with fail
      go_region_held3 (fun w' => w'.cell? ⟨w.heap.size, 0, none⟩ = some (.int .i64 c.mn) ∧ w'.cell? ⟨w.heap.size, 1, none⟩ = some (.int .i64 c.mx) ∧ w'.cell? ⟨w.heap.size, 2, none⟩ = some (.int .i64 c.win) ∧ w'.cell? ⟨w.heap.size, 3, none⟩ = some (.int .i64 c.bits) ∧ w'.cell? ⟨w.heap.size, 4, none⟩ = some (.int .u64 (u c.seed))) (go_keep)
        (first
          | (go_at_call 43; refine (refSplit_z c HK.out a cap bs X HX.out (by omega) HCAP.out HNIL.out wY (HBY.out.later IY.out.b)).mono ?_; rintro e w5 ⟨a4, cap4, rfl, hl4, _, hb4, _⟩; have I5 := Lib.hid (IY.out.step hb4); have HLX := Lib.hid hl4; have HLY := Lib.hid (HLY0.out.later hb4); obtain ⟨d0, d1, d2, d3, d4⟩ := I5.out.x; clear hb4 hl4 HLY0)
          | (go_at_call 43; refine (refSplit_z c HK.out a' cap' bs' Y HY.out (by omega) HCAP'.out HNIL'.out wX (HBY'.out.later IX.out.b)).mono ?_; rintro e w5 ⟨a5, cap5, rfl, hl5, _, hb5, _⟩; have I5 := Lib.hid (IX.out.step hb5); have HLY := Lib.hid hl5; have HLX := Lib.hid (HLX0.out.later hb5); obtain ⟨d0, d1, d2, d3, d4⟩ := I5.out.x; clear hb5 hl5 HLX0)
          | (go_at_call 43; refine (refSplit_z c HK.out a cap bs X HX.out (by omega) HCAP.out HNIL.out w3.drew (HBY.out.later I3.out.drew.b)).mono ?_; rintro e wX ⟨a4, cap4, rfl, hl4, _, hb4, _⟩; have IX := Lib.hid (I3.out.drew.step hb4); have HLX0 := Lib.hid hl4; obtain ⟨d0, d1, d2, d3, d4⟩ := IX.out.x; clear hb4 hl4)
          | (go_at_call 43; refine (refSplit_z c HK.out a' cap' bs' Y HY.out (by omega) HCAP'.out HNIL'.out w3.drew (HBY'.out.later I3.out.drew.b)).mono ?_; rintro e wY ⟨a5, cap5, rfl, hl5, _, hb5, _⟩; have IY := Lib.hid (I3.out.drew.step hb5); have HLY0 := Lib.hid hl5; obtain ⟨d0, d1, d2, d3, d4⟩ := IY.out.x; clear hb5 hl5))
      all_goals
        rename_i hHeld
        clear c0 c1 c2 c3 c4 d0 d1 d2 d3 d4 hHeld
        go_wp2_with fail
        go_loopw [12] (fun i wr => ∃ k : Nat, k ≤ X.length ∧ k ≤ Y.length ∧ i = .int .i64 k ∧ Drawn w5 wr ∧ Hid (∀ j, j < k → X.getD j [] = Y.getD j [])) (fun i _ => X.length - (intOf i).toNat)
        case atStart => exact ⟨0, Nat.zero_le _, Nat.zero_le _, rfl, Drawn.refl _, fun j hj => by omega⟩
        case round =>
          obtain ⟨k, hkx, hky, rfl, hdr, HE⟩ := hrel
          obtain ⟨q, rfl⟩ := hdr
          have HCS := Lib.hid (lcp_cases hkx hky HE.out)
          by_cases hgo : k < X.length ∧ k < Y.length ∧ X.getD k [] = Y.getD k []
          · obtain ⟨hlt, hlt', hxy⟩ := hgo
            obtain ⟨b, o, hea, hc⟩ := HLX.out.some (by omega)
            obtain ⟨b', o', hea', hc'⟩ := HLY.out.some (by omega)
            subst hea
            subst hea'
            obtain ⟨ai, ci, hck, hbi, _⟩ := hc k hlt
            obtain ⟨ai', ci', hck', hbi', _⟩ := hc' k hlt'
            have HS : Hid (∀ j, j < k + 1 → X.getD j [] = Y.getD j []) := fun j hj => by
              by_cases h : j = k
              · rw [h]; exact hxy
              · exact HE.out j (by omega)
            clear hc hc'
            generalize X.getD k [] = x at hck hbi hxy
            generalize Y.getD k [] = y at hck' hbi' hxy
            have hsb := strB_eq hbi.2.1 hbi'.2.1
            rw [decide_eq_true hxy] at hsb
            have cv1 : ∀ q, (convert 28 9 (.slice ai x.length ci)).run Tryd.prog (w5.drewN q) = .ok (.string (strB x)) (w5.drewN q) := fun q => conv_bytes (hbi.later (below_drewN (Below.refl _ _) q)) ci
            have cv2 : ∀ q, (convert 28 9 (.slice ai' y.length ci')).run Tryd.prog (w5.drewN q) = .ok (.string (strB y)) (w5.drewN q) := fun q => conv_bytes (hbi'.later (below_drewN (Below.refl _ _) q)) ci'
            clear hbi hbi' hxy
            go_wp2_with fail
            go_quiet (fail)
            go_wp2
            go_roundw
            case rel => exact ⟨k + 1, by omega, by omega, by go_num, by first | exact ⟨_, rfl⟩ | exact Drawn.drewN ⟨_, rfl⟩ _, HS.out⟩
            case measure => simp [intOf]; omega
          · have HP := Lib.hid (HCS.out hgo)
            obtain rfl := HP.out.one HP0.out
            clear HCS HP HP0
            have h3 : ¬ k < X.length ∨ (k < X.length ∧ ¬ k < Y.length) ∨ (k < X.length ∧ k < Y.length ∧ ¬ X.getD k [] = Y.getD k []) := by
              by_cases h1 : k < X.length
              · by_cases h2 : k < Y.length
                · exact .inr (.inr ⟨h1, h2, fun h => hgo ⟨h1, h2, h⟩⟩)
                · exact .inr (.inl ⟨h1, h2⟩)
              · exact .inl h1
            clear hgo
            rcases h3 with h | ⟨h, h'⟩ | ⟨hlt, hlt', hxy⟩
            focus
              have hn : ¬ (k : Int) < (X.length : Int) := by omega
              go_wp2_with (go_quiet (fail))
            rotate_left
            focus
              have hn : (k : Int) < (X.length : Int) := by omega
              have hn' : ¬ (k : Int) < (Y.length : Int) := by omega
              go_wp2_with (go_quiet (fail))
            rotate_left
            focus
              obtain ⟨b, o, hea, hc⟩ := HLX.out.some (by omega)
              obtain ⟨b', o', hea', hc'⟩ := HLY.out.some (by omega)
              subst hea
              subst hea'
              obtain ⟨ai, ci, hck, hbi, _⟩ := hc k hlt
              obtain ⟨ai', ci', hck', hbi', _⟩ := hc' k hlt'
              clear hc hc'
              generalize X.getD k [] = x at hck hbi hxy
              generalize Y.getD k [] = y at hck' hbi' hxy
              have hsb := strB_eq hbi.2.1 hbi'.2.1
              rw [decide_eq_false hxy] at hsb
              have cv1 : ∀ q, (convert 28 9 (.slice ai x.length ci)).run Tryd.prog (w5.drewN q) = .ok (.string (strB x)) (w5.drewN q) := fun q => conv_bytes (hbi.later (below_drewN (Below.refl _ _) q)) ci
              have cv2 : ∀ q, (convert 28 9 (.slice ai' y.length ci')).run Tryd.prog (w5.drewN q) = .ok (.string (strB y)) (w5.drewN q) := fun q => conv_bytes (hbi'.later (below_drewN (Below.refl _ _) q)) ci'
              clear hbi hbi' hxy
              go_wp2_with fail
              go_quiet (fail)
              go_wp2
              clear hck hck' cv1 cv2 hsb
            rotate_left
            all_goals
              go_loopw [13] (fun i wr => ∃ l : Nat, k + l ≤ X.length ∧ k + l ≤ Y.length ∧ i = .int .i64 l ∧ Drawn w5 wr ∧ Hid (∀ j, j < l → X.getD (X.length - 1 - j) [] = Y.getD (Y.length - 1 - j) [])) (fun i _ => X.length - (intOf i).toNat)
              case atStart => exact ⟨0, by omega, by omega, rfl, by first | exact ⟨_, rfl⟩ | exact Drawn.drewN ⟨_, rfl⟩ _, fun j hj => by omega⟩
              case round =>
                obtain ⟨l, hlx, hly, rfl, hdr, HE2⟩ := hrel
                obtain ⟨q2, rfl⟩ := hdr
                have HCS2 := Lib.hid (lcs_cases hlx hly HE2.out)
                by_cases hgo : k + l < X.length ∧ k + l < Y.length ∧ X.getD (X.length - 1 - l) [] = Y.getD (Y.length - 1 - l) []
                · clear HCS2
                  obtain ⟨hlt, hlt', hxy⟩ := hgo
                  obtain ⟨b, o, hea, hc⟩ := HLX.out.some (by omega)
                  obtain ⟨b', o', hea', hc'⟩ := HLY.out.some (by omega)
                  obtain ⟨p, hp⟩ : ∃ p, X.length - 1 - l = p := ⟨_, rfl⟩
                  obtain ⟨p', hp'⟩ : ∃ p', Y.length - 1 - l = p' := ⟨_, rfl⟩
                  have hpi : (X.length : Int) - 1 - (l : Int) = (p : Int) := by omega
                  have hpi' : (Y.length : Int) - 1 - (l : Int) = (p' : Int) := by omega
                  have hqi : (l : Int) < (X.length : Int) - (k : Int) := by omega
                  have hqi' : (l : Int) < (Y.length : Int) - (k : Int) := by omega
                  have hpl : p < X.length := by omega
                  have hpl' : p' < Y.length := by omega
                  obtain ⟨ai, ci, hck, hbi, _⟩ := hc p hpl
                  obtain ⟨ai', ci', hck', hbi', _⟩ := hc' p' hpl'
                  have HS : Hid (∀ j, j < l + 1 → X.getD (X.length - 1 - j) [] = Y.getD (Y.length - 1 - j) []) := fun j hj => by
                    by_cases h : j = l
                    · rw [h]; exact hxy
                    · exact HE2.out j (by omega)
                  rw [hp, hp'] at hxy
                  clear hc hc' hp hp'
                  generalize X.getD p [] = x at hck hbi hxy
                  generalize Y.getD p' [] = y at hck' hbi' hxy
                  have hsb := strB_eq hbi.2.1 hbi'.2.1
                  rw [decide_eq_true hxy] at hsb
                  have cv1 : ∀ q, (convert 28 9 (.slice ai x.length ci)).run Tryd.prog (w5.drewN q) = .ok (.string (strB x)) (w5.drewN q) := fun q => conv_bytes (hbi.later (below_drewN (Below.refl _ _) q)) ci
                  have cv2 : ∀ q, (convert 28 9 (.slice ai' y.length ci')).run Tryd.prog (w5.drewN q) = .ok (.string (strB y)) (w5.drewN q) := fun q => conv_bytes (hbi'.later (below_drewN (Below.refl _ _) q)) ci'
                  cases hea
                  cases hea'
                  clear hbi hbi' hxy
                  go_wp2_with fail
                  go_quiet (fail)
                  go_wp2
                  go_roundw
                  case rel => exact ⟨l + 1, by omega, by omega, by go_num, by first | exact ⟨_, rfl⟩ | exact Drawn.drewN ⟨_, rfl⟩ _, HS.out⟩
                  case measure => simp [intOf]; omega
                · have HQ := Lib.hid (HCS2.out hgo)
                  obtain rfl := HQ.out.one HQ0.out
                  clear HCS2 HQ
                  have h3 : ¬ k + l < X.length ∨ (k + l < X.length ∧ ¬ k + l < Y.length) ∨ (k + l < X.length ∧ k + l < Y.length ∧ ¬ X.getD (X.length - 1 - l) [] = Y.getD (Y.length - 1 - l) []) := by
                    by_cases h1 : k + l < X.length
                    · by_cases h2 : k + l < Y.length
                      · exact .inr (.inr ⟨h1, h2, fun h => hgo ⟨h1, h2, h⟩⟩)
                      · exact .inr (.inl ⟨h1, h2⟩)
                    · exact .inl h1
                  clear hgo
                  rcases h3 with h | ⟨h, h'⟩ | ⟨hlt, hlt', hxy⟩
                  focus
                    have hn : ¬ (l : Int) < (X.length : Int) - (k : Int) := by omega
                    have hnb := decide_eq_false hn
                    go_wp2_with fail
                    go_quiet (fail)
                    go_wp2_with fail
                  rotate_left
                  focus
                    have hn : (l : Int) < (X.length : Int) - (k : Int) := by omega
                    have hn' : ¬ (l : Int) < (Y.length : Int) - (k : Int) := by omega
                    have hnb := decide_eq_false hn'
                    have hnb' := decide_eq_true hn
                    go_wp2_with fail
                    go_quiet (fail)
                    go_wp2_with fail
                  rotate_left
                  focus
                    obtain ⟨b, o, hea, hc⟩ := HLX.out.some (by omega)
                    obtain ⟨b', o', hea', hc'⟩ := HLY.out.some (by omega)
                    obtain ⟨p, hp⟩ : ∃ p, X.length - 1 - l = p := ⟨_, rfl⟩
                    obtain ⟨p', hp'⟩ : ∃ p', Y.length - 1 - l = p' := ⟨_, rfl⟩
                    have hpi : (X.length : Int) - 1 - (l : Int) = (p : Int) := by omega
                    have hpi' : (Y.length : Int) - 1 - (l : Int) = (p' : Int) := by omega
                    have hqi : (l : Int) < (X.length : Int) - (k : Int) := by omega
                    have hqi' : (l : Int) < (Y.length : Int) - (k : Int) := by omega
                    have hpl : p < X.length := by omega
                    have hpl' : p' < Y.length := by omega
                    obtain ⟨ai, ci, hck, hbi, _⟩ := hc p hpl
                    obtain ⟨ai', ci', hck', hbi', _⟩ := hc' p' hpl'
                    rw [hp, hp'] at hxy
                    clear hc hc' hp hp'
                    generalize X.getD p [] = x at hck hbi hxy
                    generalize Y.getD p' [] = y at hck' hbi' hxy
                    have hsb := strB_eq hbi.2.1 hbi'.2.1
                    rw [decide_eq_false hxy] at hsb
                    have cv1 : ∀ q, (convert 28 9 (.slice ai x.length ci)).run Tryd.prog (w5.drewN q) = .ok (.string (strB x)) (w5.drewN q) := fun q => conv_bytes (hbi.later (below_drewN (Below.refl _ _) q)) ci
                    have cv2 : ∀ q, (convert 28 9 (.slice ai' y.length ci')).run Tryd.prog (w5.drewN q) = .ok (.string (strB y)) (w5.drewN q) := fun q => conv_bytes (hbi'.later (below_drewN (Below.refl _ _) q)) ci'
                    cases hea
                    cases hea'
                    clear hbi hbi' hxy
                    go_wp2_with fail
                    go_quiet (fail)
                    go_wp2_with fail
                    clear hck hck' cv1 cv2 hsb hpi hpi'
                  rotate_left
                  all_goals
                    refine (awake16 _ ((I5.out.drewN _).tab HT.out)).mono ?_
                    rintro e wA ⟨rfl, hbA⟩
                    have IA := Lib.hid ((I5.out.drewN _).step hbA)
                    clear hbA
                    go_wp2_with fail
                    go_ret
                    exact ⟨rfl, IA.out.b⟩
    · rw [decide_eq_false h3]
      go_wp2_with fail
      refine (awake16 w2 (I2.out.tab HT.out)).mono ?_
      rintro e w3 ⟨rfl, hb3⟩
      have I3 := Lib.hid (I2.out.step hb3)
      clear hb3
      go_wp2_with fail
      go_ret
      exact ⟨rfl, I3.out.b⟩
end Go.Proofs.YtfnhcjcahcacnaaDoor
