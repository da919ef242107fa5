/- Texts Tfc of the proof, each as a section; no premises beyond those that each theorem states. -/
import Derived.Test.YtmcbnhkcjhlbaaaGreatDoorP13
set_option linter.unusedVariables false
set_option linter.unusedSimpArgs false
namespace Go.Proofs.YtmcbnhkcjhlbaaaGreatDoor.Tp
open Go.RowKit
open Kit (Chg)
open Go.Proofs.YtmcbnhkcjhlbaaaGreatDoor.One

theorem str_ext {s t : ByteArray} (h : s.data.toList = t.data.toList) : s = t := by
  apply ByteArray.ext
  exact Array.toList_inj.1 h
def FindR (xs : List FV) (p : Bs) (w : World) (e : Ending) (w' : World) : Prop := ∃ r : Int, e = .returned (.int .i64 r) ∧ ((r = -1 ∧ ∀ x ∈ xs, x.e.p ≠ p) ∨ ∃ k, ∃ h : k < xs.length, r = (k : Int) ∧ xs[k].e.p = p) ∧ Below w.heap.size w w'
set_option maxRecDepth 100000 in
set_option maxHeartbeats 2000000 in
theorem refFind_any (a : Option Addr) (n cap : Nat) (xs : List FV) (hn : xs.length = n) (hm : n ≤ 4000000) (s : ByteArray) (w : World) (hX : FEsAt w a xs) : Calls Tryz.prog 55 #[.slice a n cap, .string s] w (FindR xs s.data.toList w) := by
  have HN := Lib.hid hn
  have HX := Lib.hid hX
  clear hn hX
  go_enter Tryz.func55, Tryz.ntmps55
  go_wp2
  go_loopw [9] (fun i wr => ∃ k : Nat, k ≤ n ∧ i = .int .i64 k ∧ Below w.heap.size w wr ∧ ∀ x ∈ xs.take k, x.e.p ≠ s.data.toList) (fun i _ => n - (intOf i).toNat)
  case atStart => exact ⟨0, Nat.zero_le _, rfl, Below.refl _ _, by simp⟩
  case round =>
    obtain ⟨k, hk, rfl, hb, hP⟩ := hrel
    have HB := Lib.hid hb
    have HP := Lib.hid hP
    clear hb hP
    by_cases hlt : k < n
    · have hkx : k < xs.length := by rw [HN.out]; exact hlt
      obtain ⟨b, o, rfl, c0, c1, c2, c3, c4, c5⟩ := (HX.out.later HB.out).six k hkx
      obtain ⟨x, hx⟩ : ∃ x, xs[k] = x := ⟨_, rfl⟩
      rw [hx] at c0 c1 c2 c3 c4 c5
      have HXK := Lib.hid hx
      have HKX := Lib.hid hkx
      clear hx
      by_cases he : x.e.p = s.data.toList
      · have hq : (x.e.path.toList == s.toList) = true := by rw [str_eq_iff]; exact decide_eq_true he
        have HE := Lib.hid he
        clear he
        go_wp2
        go_ret
        exact ⟨k, rfl, .inr ⟨k, HKX.out, rfl, by rw [HXK.out]; exact HE.out⟩, HB.out.alloc HB.out.size _⟩
      · have hq : (x.e.path.toList == s.toList) = false := by rw [str_eq_iff]; exact decide_eq_false he
        have HE := Lib.hid he
        clear he
        go_wp2
        go_roundw
        case rel =>
          refine ⟨k + 1, by omega, by go_num, HB.out.alloc HB.out.size _, fun y hy => ?_⟩
          rw [List.take_succ_eq_append_getElem HKX.out] at hy
          rcases List.mem_append.1 hy with h | h
          · exact HP.out y h
          · rw [List.mem_singleton.1 h, HXK.out]
            exact HE.out
        case measure => simp [intOf]; omega
    · go_wp2
      go_ret
      refine ⟨-1, rfl, .inl ⟨rfl, fun x hx => HP.out x ?_⟩, HB.out⟩
      rw [List.take_of_length_le (by rw [HN.out]; omega)]
      exact hx
def DirR (xs : List FV) (p : Bs) (w : World) (e : Ending) (w' : World) : Prop := ∃ r : Int, e = .returned (.int .i64 r) ∧ (r = 0 → p = [] ∨ ∃ k, ∃ h : k < xs.length, xs[k].e.p = p ∧ xs[k].e.kind = 2) ∧ Below w.heap.size w w'
set_option maxRecDepth 100000 in
set_option maxHeartbeats 2000000 in
theorem refDir_any (a : Option Addr) (n cap : Nat) (xs : List FV) (hn : xs.length = n) (hm : n ≤ 4000000) (s : ByteArray) (w : World) (hX : FEsAt w a xs) : Calls Tryz.prog 24 #[.slice a n cap, .string s] w (DirR xs s.data.toList w) := by
  have HF := Lib.hid (refFind_any a n cap xs hn hm s w hX)
  have HN := Lib.hid hn
  have HX := Lib.hid hX
  clear hn hX
  by_cases h0 : s.data.toList = []
  · have hq : s.toList = [] := by rw [Lib.toList_data]; exact h0
    have H0 := Lib.hid h0
    clear h0
    go_enter Tryz.func24, Tryz.ntmps24
    go_wp2
    go_ret
    exact ⟨0, rfl, fun _ => .inl H0.out, Below.refl _ _⟩
  · have hq : s.toList.isEmpty = false := by rw [Lib.toList_data, List.isEmpty_eq_false_iff]; exact h0
    clear h0
    go_enter Tryz.func24, Tryz.ntmps24
    go_wp2_with fail
    refine HF.out.mono ?_
    rintro e W ⟨r, rfl, hr, hb⟩
    have HB := Lib.hid hb
    clear hb
    rcases hr with ⟨rfl, hr⟩ | ⟨k, hk, rfl, hr⟩
    · clear hr
      go_wp2
      go_ret
      exact ⟨4, rfl, (fun h => by cases h), HB.out⟩
    · obtain ⟨b, o, rfl, c0, c1, c2, c3, c4, c5⟩ := (HX.out.later HB.out).six k hk
      obtain ⟨x, hx⟩ : ∃ x, xs[k] = x := ⟨_, rfl⟩
      rw [hx] at c0 c1 c2 c3 c4 c5 hr
      have HXK := Lib.hid hx
      have HR := Lib.hid hr
      have hkn : k < n := by rw [← HN.out]; exact hk
      have HK := Lib.hid hk
      clear hx hr
      have hz1 : ¬ (k : Int) < 0 := by omega
      have hz2 : (k : Int) < (n : Int) := by omega
      by_cases he : x.e.kind = 2
      · have hq2 : (x.e.kind != 2) = false := by rw [he]; rfl
        have HE := Lib.hid he
        clear he
        go_wp2
        go_ret
        exact ⟨0, rfl, fun _ => .inr ⟨k, HK.out, by rw [HXK.out]; exact ⟨HR.out, HE.out⟩⟩, HB.out⟩
      · have hq2 : (x.e.kind != 2) = true := by rw [bne_iff_ne]; exact he
        clear he
        go_wp2
        go_ret
        exact ⟨13, rfl, (fun h => by cases h), HB.out⟩
set_option maxRecDepth 100000 in
set_option maxHeartbeats 4000000 in
theorem refValid20_any (x : FV) (w : World) (hx : x.ok w) : Calls Tryz.prog 22 #[.agg x.row] w (BoolTo x.e.ok w) := by
  have HV := Lib.hid (refValid18_any x.e.path hx.sp)
  have HS := Lib.hid hx.sl
  have HSD := Lib.hid hx.sd
  have hl : x.e.link.size ≤ 4000000 := hx.sl
  have hd : x.e.data.length ≤ 4000000 := hx.sd
  obtain ⟨x, a, c⟩ := x
  obtain ⟨path, kind, mode, time, data, link⟩ := x
  dsimp only at HV HS HSD hl hd
  unfold FV.row
  dsimp only
  go_enter Tryz.func22, Tryz.ntmps22
  go_wp2_with fail
  refine (HV.out _).mono ?_
  rintro e W ⟨v, rfl, hv, hb⟩
  have HVP := Lib.hid hv
  have hb' : Below w.heap.size w W := ((Below.refl w.heap.size w).alloc (Nat.le_refl _) _).trans (hb.mono (by simp))
  have HB := Lib.hid hb'
  obtain ⟨N, hN⟩ : ∃ N, w.heap.size = N := ⟨_, rfl⟩
  have h6 : SixAt W N 0 ⟨⟨path, kind, mode, time, data, link⟩, a, c⟩ := by
    refine SixAt.low (N := N + 1) (six_of_row (T := 54) (f := (0, 0)) ?_) (hb.mono (by simp [hN])) (Nat.lt_succ_self N)
    rw [← hN]
    exact heap_alloc_new w _
  obtain ⟨c0, c1, c2, c3, c4, c5⟩ := h6
  simp only [Nat.zero_add] at c0 c1 c2 c3 c4 c5
  clear hv hb hb'
  rw [hN]
  clear hN
  cases v
  · go_wp2
    go_ret
    exact ⟨false, rfl, (fun h => by cases h), HB.out⟩
  · by_cases hok : 0 ≤ mode ∧ mode ≤ 511 ∧ 0 ≤ time ∧ 1 ≤ kind ∧ kind ≤ 3
    rotate_left
    · go_wp2
      all_goals first
        | (go_ret; exact ⟨false, rfl, (fun h => by cases h), HB.out⟩)
        | (exfalso; omega)
    · obtain ⟨m0, m1, t0, k1, k3⟩ := hok
      have z1 : ¬ mode < 0 := by omega
      have z2 : ¬ 511 < mode := by omega
      have z3 : ¬ time < 0 := by omega
      have z4 : ¬ kind < 1 := by omega
      have z5 : ¬ 3 < kind := by omega
      have HMT : Hid (0 ≤ mode ∧ mode ≤ 511 ∧ 0 ≤ time ∧ 1 ≤ kind ∧ kind ≤ 3) := Lib.hid ⟨m0, m1, t0, k1, k3⟩
      by_cases hda : (kind ≠ 1 ∧ 0 < data.length) ∨ 1048576 < data.length
      · by_cases hk1 : kind = 1
        · have q1 : (kind != 1) = false := by rw [hk1]; rfl
          have q2 : (1048576 : Int) < (data.length : Int) := by
            rcases hda with h | h
            · exact absurd hk1 h.1
            · omega
          clear hk1 hda
          go_wp2
          go_ret
          exact ⟨false, rfl, (fun h => by cases h), HB.out⟩
        · have q1 : (kind != 1) = true := by rw [bne_iff_ne]; exact hk1
          have q2 : 0 < data.length := by
            rcases hda with h | h
            · exact h.2
            · omega
          clear hk1 hda
          go_wp2
          go_ret
          exact ⟨false, rfl, (fun h => by cases h), HB.out⟩
      · have HDA := Lib.hid hda
        have q2 : ¬ (1048576 : Int) < (data.length : Int) := by omega
        have hfirst : (kind != 1) = false ∨ ((kind != 1) = true ∧ ¬ 0 < data.length) := by
          by_cases hk1 : kind = 1
          · exact .inl (by rw [hk1]; rfl)
          · exact .inr ⟨by rw [bne_iff_ne]; exact hk1, fun h => hda (.inl ⟨hk1, h⟩)⟩
        clear hda
        rcases hfirst with q1 | ⟨q1, q3⟩
        all_goals
          go_wp2
          go_loop [3] (fun i => ∃ k : Nat, k ≤ link.size ∧ i = .int .i64 k ∧ ∀ b ∈ link.data.toList.take k, b ≠ 0) (fun i => link.size - (intOf i).toNat)
          case atStart => exact ⟨0, Nat.zero_le _, rfl, by simp⟩
          case round =>
            obtain ⟨k, hk, rfl, hc⟩ := hrel
            have HC := Lib.hid hc
            clear hc
            by_cases hlt : k < link.size
            · by_cases h0 : link[k] = 0
              · have z0 : ((link[k].toNat : Int) == 0) = true := by rw [h0]; rfl
                clear h0
                go_wp2
                go_ret
                exact ⟨false, rfl, (fun h => by cases h), HB.out⟩
              · have z0 : ((link[k].toNat : Int) == 0) = false := by
                  rw [beq_eq_false_iff_ne]
                  intro e
                  exact h0 (UInt8.toNat_inj.1 (show link[k].toNat = 0 by omega))
                have HZ := Lib.hid h0
                clear h0
                go_wp2
                go_round
                case rel =>
                  refine ⟨k + 1, by omega, by go_num, fun b hb => ?_⟩
                  have hkl : k < link.data.toList.length := by rw [bytes_len]; exact hlt
                  rw [List.take_succ_eq_append_getElem hkl] at hb
                  rcases List.mem_append.1 hb with h | h
                  · exact HC.out b h
                  · rw [List.mem_singleton.1 h]
                    exact HZ.out
                case measure => simp [intOf]; omega
            · have HALL : Hid (∀ b ∈ link.data.toList, b ≠ 0) := Lib.hid (fun b hb => HC.out b (by rw [List.take_of_length_le (by rw [bytes_len]; omega)]; exact hb))
              have hend : (kind == 3) = (!link.toList.isEmpty) → decide ((link.size : Int) ≤ 512) = true → FE.ok ⟨path, kind, mode, time, data, link⟩ := by
                intro hV1 hV2
                have e1 := of_decide_eq_true hV2
                have e2 : (kind = 3) ↔ link.size ≠ 0 := by
                  have h := hV1
                  have h3 : link.toList.isEmpty = true ↔ link.size = 0 := by
                    rw [Lib.toList_data, List.isEmpty_iff, ← List.length_eq_zero_iff, bytes_len]
                  constructor
                  · intro hk he
                    rw [hk, h3.2 he] at h
                    exact absurd h (by decide)
                  · intro hne
                    have h4 : link.toList.isEmpty = false := by
                      rw [← Bool.not_eq_true]
                      exact fun h5 => hne (h3.1 h5)
                    rw [h4] at h
                    exact beq_iff_eq.1 h
                have hm := HMT.out
                have hd2 := HDA.out
                refine ⟨HVP.out trivial, hm.1, hm.2.1, hm.2.2.1, fun hk => ?_, fun hk => ?_, fun hk => ?_, by show kind = 1 ∨ kind = 2 ∨ kind = 3; omega⟩
                · dsimp only at hk ⊢
                  refine ⟨by omega, ?_⟩
                  have : ¬ (link.size ≠ 0) := fun h => by have := e2.2 h; omega
                  omega
                · dsimp only at hk ⊢
                  refine ⟨List.eq_nil_of_length_eq_zero (by omega), ?_⟩
                  have : ¬ (link.size ≠ 0) := fun h => by have := e2.2 h; omega
                  omega
                · dsimp only at hk ⊢
                  have := e2.1 hk
                  exact ⟨List.eq_nil_of_length_eq_zero (by omega), by omega, by omega, HALL.out⟩
              have HEND := Lib.hid hend
              clear hend
              go_wp2
              all_goals first
                | (go_ret; exact ⟨false, rfl, (fun h => by cases h), HB.out⟩)
                | (go_ret
                   have hq1 : (kind == 3) = (!link.toList.isEmpty) := by assumption
                   exact ⟨_, rfl, HEND.out hq1, HB.out⟩)
end Go.Proofs.YtmcbnhkcjhlbaaaGreatDoor.Tp
