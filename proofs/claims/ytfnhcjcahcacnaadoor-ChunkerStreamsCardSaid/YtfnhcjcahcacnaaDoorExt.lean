/- Reach; bytes.Equal; Same. -/
import Derived.Test.YtfnhcjcahcacnaaDoorPsh
import Derived.BigQuiet
import Derived.Laws.BytesArg
import Derived.Lib.Bytes
namespace Go.Proofs.YtfnhcjcahcacnaaDoor
open Go.RowKit
open Roll (u)
open Kit (Chg)
open Chk

def reachB (mn mx win bits f t : Int) : Bool := validB mn mx win bits && decide (0 ≤ f ∧ f < t ∧ t ≤ 1048576)
def reachV (mn mx win bits f t : Int) : Value := if reachB mn mx win bits f t = true then .tuple #[.int .i64 (f + 1), .int .i64 (t + win + mn - 2), .int .i64 0] else .tuple #[.int .i64 0, .int .i64 0, .int .i64 1]

set_option maxRecDepth 100000 in
set_option maxHeartbeats 400000 in
theorem reach_any (mn mx win bits : Int) (s : BitVec 64) (f t : Int) (w : World) :
    Calls Tryd.prog 46 #[.agg #[.int .i64 mn, .int .i64 mx, .int .i64 win, .int .i64 bits, .int .u64 (u s)], .int .i64 f, .int .i64 t] w fun e w' => e = .returned (reachV mn mx win bits f t) ∧ Below w.heap.size w w' := by
  go_enter Tryd.func46, Tryd.ntmps46
  go_wp2_with fail
  refine (valid_any mn mx win bits s _).mono ?_
  rintro e w1 ⟨rfl, hb⟩
  have HB := Lib.hid (((Below.refl w.heap.size w).alloc (Nat.le_refl _) (.cells #[.int .i64 mn, .int .i64 mx, .int .i64 win, .int .i64 bits, .int .u64 (u s)] 48)).trans (hb.mono (by simp)))
  have c0 : w1.cell? ⟨w.heap.size, 0, none⟩ = some (.int .i64 mn) := (hb.cell (p := ⟨w.heap.size, 0, none⟩) (by simp)).trans (by rw [cell_of_row _ _ _ _ _ _ (heap_alloc_new _ _)]; rfl)
  have c2 : w1.cell? ⟨w.heap.size, 2, none⟩ = some (.int .i64 win) := (hb.cell (p := ⟨w.heap.size, 2, none⟩) (by simp)).trans (by rw [cell_of_row _ _ _ _ _ _ (heap_alloc_new _ _)]; rfl)
  clear hb
  cases hv : validB mn mx win bits with
  | false =>
    have HE : Hid (reachB mn mx win bits f t = false) := by show _ = _; unfold reachB; rw [hv]; rfl
    clear hv
    go_wp2_with fail
    go_ret3
    refine ⟨?_, HB.out⟩
    unfold reachV; rw [if_neg (by rw [HE.out]; simp)]; rfl
  | true =>
    have hV := hv
    unfold validB at hV
    rw [decide_eq_true_eq] at hV
    obtain ⟨v1, v2, v3, v4, v5, v6, v7⟩ := hV
    by_cases h : 0 ≤ f ∧ f < t ∧ t ≤ 1048576
    · have HE : Hid (reachB mn mx win bits f t = true) := by show _ = _; unfold reachB; rw [hv, decide_eq_true h]; rfl
      obtain ⟨h1, h2, h3⟩ := h
      have g1 : ¬ f < 0 := by omega
      have g2 : ¬ t ≤ f := by omega
      have g3 : ¬ (1048576 : Int) < t := by omega
      clear hv
      go_wp2_with (go_quiet (fail))
      go_ret3
      refine ⟨?_, ?_⟩
      · unfold reachV; rw [if_pos HE.out]; rfl
      · first | exact HB.out | exact below_drewN HB.out _
    · have HE : Hid (reachB mn mx win bits f t = false) := by show _ = _; unfold reachB; rw [hv, decide_eq_false h]; rfl
      clear hv
      by_cases g1 : f < 0
      · go_wp2_with fail
        go_ret3
        refine ⟨?_, HB.out⟩
        unfold reachV; rw [if_neg (by rw [HE.out]; simp)]; rfl
      · by_cases g2 : t ≤ f
        · go_wp2_with fail
          go_ret3
          refine ⟨?_, HB.out⟩
          unfold reachV; rw [if_neg (by rw [HE.out]; simp)]; rfl
        · have g3 : (1048576 : Int) < t := by omega
          go_wp2_with fail
          go_ret3
          refine ⟨?_, HB.out⟩
          unfold reachV; rw [if_neg (by rw [HE.out]; simp)]; rfl

/-- Bytes as a string. -/
def strB (bs : List Nat) : ByteArray := strOfNums (bs.map fun (x : Nat) => (x : Int))
theorem strB_inj {bs cs : List Nat} (hb : ∀ x ∈ bs, x < 256) (hc : ∀ x ∈ cs, x < 256) (h : strB bs = strB cs) : bs = cs := by
  have h1 := congrArg (fun s : ByteArray => s.data.toList) h
  simp only [strB, strOfNums_data, List.map_map] at h1
  have hl : bs.length = cs.length := by have := congrArg List.length h1; simpa using this
  refine List.ext_getElem hl fun i h2 h3 => ?_
  have h4 := congrArg (fun l => l[i]?) h1
  simp only [List.getElem?_map, List.getElem?_eq_getElem h2, List.getElem?_eq_getElem h3, Option.map_some, Option.some.injEq, Function.comp] at h4
  have h5 := congrArg UInt8.toNat h4
  have b1 := hb _ (List.getElem_mem h2)
  have b2 := hc _ (List.getElem_mem h3)
  simp at h5
  omega
theorem strB_eq {bs cs : List Nat} (hb : ∀ x ∈ bs, x < 256) (hc : ∀ x ∈ cs, x < 256) : ((strB bs).toList == (strB cs).toList) = decide (bs = cs) := by
  rw [Bool.eq_iff_iff, beq_iff_eq, decide_eq_true_eq]
  refine ⟨fun h => strB_inj hb hc ?_, fun h => by rw [h]⟩
  rw [Lib.toList_data, Lib.toList_data] at h
  exact ByteArray.ext (Array.toList_inj.1 h)
theorem strB_nil : strB [] = ByteArray.empty := rfl
theorem conv_bytes {w : World} {a : Option Addr} {bs : List Nat} (h : BytesAt w a bs) (cap : Nat) : (convert 28 9 (.slice a bs.length cap)).run Tryd.prog w = .ok (.string (strB bs)) w := by
  cases a with
  | none =>
    have hn : bs = [] := by
      by_cases h0 : bs = []
      · exact h0
      · obtain ⟨b, o, e, _⟩ := h.some (by have := List.length_pos_iff.2 h0; omega)
        cases e
    rw [hn]
    exact run_convert_bytes_nil w 28 5 (by exact Tryd.underlying28) (by exact Tryd.underlying5) _ _ 9 (by exact Tryd.underlying9)
  | some ad =>
    rcases h.1 with e | ⟨b, o, e, hc⟩
    · have hn : bs = [] := e
      subst hn
      rw [run_convert_bytes_string w 28 9 5 _ _ cap Tryd.underlying28 Tryd.underlying5 Tryd.underlying9]
      show (Conv.bytesToString (.slice (some ad) 0 cap)).run Tryd.prog w = _
      rw [run_bytesToString w ad 0 cap [] (by simpa using run_loadCells_list (P := Tryd.prog) w ad [] (fun j v hj => by simp at hj))]
      rfl
    · cases e
      refine run_convert_bytes_arg w 28 5 Tryd.underlying28 Tryd.underlying5 b o bs.length cap _ (by simp) (fun i hi => ?_) 9 Tryd.underlying9
      rw [hc i hi]
      simp [List.getElem?_eq_getElem hi, List.getD]

theorem equal_any (a a' : Option Addr) (cap cap' : Nat) (bs cs : List Nat) (w : World) (h : BytesAt w a bs) (h' : BytesAt w a' cs) :
    Calls Tryd.prog 67 #[.slice a bs.length cap, .slice a' cs.length cap'] w fun e w' => e = .returned (.bool (decide (bs = cs))) ∧ w = w' := by
  have h1 := conv_bytes h cap
  have h2 := conv_bytes h' cap'
  have HD := Lib.hid (strB_eq h.2.1 h'.2.1)
  clear h h'
  go_enter Tryd.func67, Tryd.ntmps67
  go_wp2
  go_ret
  exact ⟨by rw [← HD.out]; rfl, rfl⟩

/-- A slice of byte strings. -/
def Lists (w : World) (a : Option Addr) (css : List (List Nat)) : Prop :=
  css = [] ∨ ∃ b o, a = some ⟨b, o, none⟩ ∧ ∀ i, i < css.length → ∃ ai ci, w.cell? ⟨b, o + i, none⟩ = some (.slice ai (css.getD i []).length ci) ∧ BytesAt w ai (css.getD i []) ∧ (css.getD i []).length ≤ ci
theorem Lists.later {w w' : World} {a : Option Addr} {css : List (List Nat)} (h : Lists w a css) (hb : Below w.heap.size w w') : Lists w' a css := by
  rcases h with e | ⟨b, o, e, hc⟩
  · exact .inl e
  · refine .inr ⟨b, o, e, fun i hi => ?_⟩
    obtain ⟨ai, ci, h1, h2, h3⟩ := hc i hi
    exact ⟨ai, ci, (hb.cell (World.block_lt_of_cell? w _ h1)).trans h1, h2.later hb, h3⟩
theorem Lists.some {w : World} {a : Option Addr} {css : List (List Nat)} (h : Lists w a css) (h0 : 0 < css.length) : ∃ b o, a = Option.some ⟨b, o, none⟩ ∧ ∀ i, i < css.length → ∃ ai ci, w.cell? ⟨b, o + i, none⟩ = Option.some (.slice ai (css.getD i []).length ci) ∧ BytesAt w ai (css.getD i []) ∧ (css.getD i []).length ≤ ci := by
  rcases h with e | h
  · rw [e] at h0; simp at h0
  · exact h
theorem lists_of_own {w : World} {base n : Nat} {v : Value} {rows : List (Option Addr × Nat × Nat)} {css : List (List Nat)} (h : w.ownsRow base 28 1 v n (rows.map slV)) (hc : ChL w rows css) :
    n = css.length ∧ ∃ a cap, v = .slice a css.length cap ∧ css.length ≤ cap ∧ cap ≤ maxLen ∧ Lists w a css ∧ (a = none → cap = 0) := by
  obtain ⟨hl, hv⟩ := h
  rw [List.length_map, Nat.mul_one, hc.1] at hl
  subst hl
  refine ⟨rfl, ?_⟩
  rcases hv with ⟨rfl, h0⟩ | ⟨g, cap, cur, rfl, _, hg, hnc, hcm, hcs, htake⟩
  · exact ⟨none, 0, by rw [h0], by omega, Nat.zero_le _, .inl (List.eq_nil_of_length_eq_zero h0), fun _ => rfl⟩
  · refine ⟨_, cap, rfl, hnc, hcm, .inr ⟨g, 0, rfl, fun i hi => ?_⟩, fun e => by cases e⟩
    obtain ⟨gi, ci, k1, k2, k3, k4⟩ := hc.2 i hi
    refine ⟨_, ci, ?_, k2, k3⟩
    rw [Nat.zero_add, cell_of_row _ _ _ _ _ _ hg]
    have h1 := congrArg (fun l => l[i]?) htake
    simp only [List.getElem?_map, k1, Option.map_some, slV] at h1
    rw [List.getElem?_take_of_lt (by rw [Nat.mul_one]; exact hi)] at h1
    simpa using h1
theorem take_succ_eqL {α : Type} (d : α) (zs ys : List α) (k : Nat) (h : k < zs.length) (h' : k < ys.length) (ht : zs.take k = ys.take k) (he : zs.getD k d = ys.getD k d) : zs.take (k + 1) = ys.take (k + 1) := by
  rw [List.take_succ_eq_append_getElem h, List.take_succ_eq_append_getElem h', ht]
  rw [List.getD_eq_getElem?_getD, List.getD_eq_getElem?_getD, List.getElem?_eq_getElem h, List.getElem?_eq_getElem h'] at he
  rw [show zs[k] = ys[k] from he]
theorem ne_of_getDL {α : Type} (d : α) (zs ys : List α) (k : Nat) (h : zs.getD k d ≠ ys.getD k d) : zs ≠ ys := fun e => h (by rw [e])

set_option maxHeartbeats 1000000 in
theorem same_any (a a' : Option Addr) (cap cap' : Nat) (zs ys : List (List Nat)) (hl : zs.length ≤ 1000000) (hl' : ys.length ≤ 1000000) (w : World) (h : Lists w a zs) (h' : Lists w a' ys) :
    Calls Tryd.prog 45 #[.slice a zs.length cap, .slice a' ys.length cap'] w fun e w' => e = .returned (.bool (decide (zs = ys))) ∧ Below w.heap.size w w' := by
  have HH := Lib.hid h
  have HH' := Lib.hid h'
  clear h h'
  by_cases he : zs.length = ys.length
  · have HL := Lib.hid he
    have hne : ((zs.length : Int) == (ys.length : Int)) = true := by rw [beq_iff_eq]; omega
    clear he
    go_enter Tryd.func45, Tryd.ntmps45
    go_wp2_with fail
    go_loopw [5] (fun i wr => ∃ k : Nat, k ≤ zs.length ∧ i = .int .i64 k ∧ Hid (zs.take k = ys.take k) ∧ Hid (Below w.heap.size w wr)) (fun i _ => zs.length - (intOf i).toNat)
    case atStart => exact ⟨0, Nat.zero_le _, rfl, rfl, Below.refl _ _⟩
    case round =>
      obtain ⟨k, hk, rfl, HT, HB⟩ := hrel
      by_cases hlt : k < zs.length
      · have hlt' : k < ys.length := by have := HL.out; omega
        obtain ⟨b, o, rfl, hc⟩ := (HH.out.later HB.out).some (by omega)
        obtain ⟨b', o', rfl, hc'⟩ := (HH'.out.later HB.out).some (by omega)
        obtain ⟨ai, ci, hck, hbi, _⟩ := hc k hlt
        obtain ⟨ai', ci', hck', hbi', _⟩ := hc' k hlt'
        have HS := Lib.hid (take_succ_eqL [] zs ys k hlt hlt' HT.out)
        have HN := Lib.hid (ne_of_getDL [] zs ys k)
        clear hc hc'
        generalize zs.getD k [] = x at hck hbi HS HN
        generalize ys.getD k [] = y at hck' hbi' HS HN
        have cv1 : ∀ q, (convert 28 9 (.slice ai x.length ci)).run Tryd.prog (wr.drewN q) = .ok (.string (strB x)) (wr.drewN q) := fun q => conv_bytes (hbi.later (below_drewN (Below.refl _ _) q)) ci
        have cv2 : ∀ q, (convert 28 9 (.slice ai' y.length ci')).run Tryd.prog (wr.drewN q) = .ok (.string (strB y)) (wr.drewN q) := fun q => conv_bytes (hbi'.later (below_drewN (Below.refl _ _) q)) ci'
        have hsb := strB_eq hbi.2.1 hbi'.2.1
        clear hbi hbi'
        by_cases hxy : x = y
        · have HS2 := Lib.hid (HS.out hxy)
          rw [decide_eq_true hxy] at hsb
          clear HS HN hxy
          go_wp2_with fail
          go_quiet (fail)
          go_wp2
          go_roundw
          case rel => exact ⟨k + 1, by omega, by go_num, HS2.out, below_drewN HB.out _⟩
          case measure => simp [intOf]; omega
        · rw [decide_eq_false hxy] at hsb
          have HD := Lib.hid (decide_eq_false (HN.out hxy))
          clear hxy
          go_wp2_with fail
          go_quiet (fail)
          go_wp2
          go_ret
          exact ⟨by rw [HD.out]; rfl, below_drewN HB.out _⟩
      · have e : k = zs.length := by omega
        have ht := HT.out
        rw [e, List.take_length, HL.out, List.take_length] at ht
        have HD := Lib.hid (decide_eq_true ht)
        clear ht e
        go_wp2
        go_ret
        exact ⟨by rw [HD.out]; rfl, HB.out⟩
  · have hne : ((zs.length : Int) == (ys.length : Int)) = false := by rw [beq_eq_false_iff_ne]; omega
    have HD := Lib.hid (decide_eq_false (show ¬ zs = ys from fun e => he (by rw [e])))
    clear he
    go_enter Tryd.func45, Tryd.ntmps45
    go_wp2_with fail
    go_ret
    exact ⟨by rw [HD.out]; rfl, Below.refl _ _⟩
end Go.Proofs.YtfnhcjcahcacnaaDoor
