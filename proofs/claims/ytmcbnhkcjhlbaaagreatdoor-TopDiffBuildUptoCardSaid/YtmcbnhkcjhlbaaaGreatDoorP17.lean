/- Texts Tpl2, Tpp, Tmp, Tct, Tme of the proof, each as a section; no premises beyond those that each theorem states. -/
import Derived.Lib.Small
import Derived.WideKeyEntry
import Derived.Test.YtmcbnhkcjhlbaaaGreatDoorP11
import Derived.Test.YtmcbnhkcjhlbaaaGreatDoorP13
import Derived.Test.YtmcbnhkcjhlbaaaGreatDoorP14
import Derived.Test.YtmcbnhkcjhlbaaaGreatDoorP15
import Derived.Test.YtmcbnhkcjhlbaaaGreatDoorP16
set_option linter.unusedVariables false
set_option linter.unusedSimpArgs false
section
namespace Go.Proofs.YtmcbnhkcjhlbaaaGreatDoor.Tp
theorem index_app : ∀ (a b : Bs), 47 ∉ a → Go.Lib.index (a ++ 47 :: b) [47] = (a.length : Int)
  | [], b, _ => by simp [Go.Lib.index, List.isPrefixOf]
  | c :: a, b, h => by
    have hc : c ≠ 47 := fun e => h (by rw [e]; simp)
    have ha : 47 ∉ a := fun e => h (List.mem_cons_of_mem _ e)
    rw [List.cons_append, Go.Lib.index, index_app a b ha]
    have h1 : ([47] : Bs).isPrefixOf (c :: (a ++ 47 :: b)) = false := by simp [List.isPrefixOf, Ne.symm hc]
    rw [h1]
    have h2 : (((a.length : Int)) == -1) = false := by rw [beq_eq_false_iff_ne]; omega
    simp [h2]
theorem splitK_cutS : ∀ (n : Nat) (l : Bs), l.count 47 = n → Go.Lib.splitK [47] 0 n l = cutS l
  | 0, l, h => by
    have : 47 ∉ l := List.count_eq_zero.1 h
    rw [cutS_one l this]
    rfl
  | n + 1, l, h => by
    rcases cutS_split l with ⟨h1, _⟩ | ⟨a, b, rfl, ha, e⟩
    · rw [List.count_eq_zero.2 h1] at h; omega
    · have hb : b.count 47 = n := by
        rw [List.count_append, List.count_eq_zero.2 ha, List.count_cons_self] at h
        omega
      rw [e, Go.Lib.splitK, index_app a b ha]
      have h2 : (((a.length : Int)) == -1) = false := by rw [beq_eq_false_iff_ne]; omega
      rw [h2]
      simp only [Bool.false_eq_true, if_false, Int.toNat_natCast, Nat.add_zero]
      rw [List.take_append_of_le_length (Nat.le_refl _), List.take_length]
      congr 1
      have h3 : (a ++ 47 :: b).drop (a.length + ([47] : Bs).length) = b := by
        rw [List.drop_append]
        simp
      rw [h3]
      exact splitK_cutS n b hb
theorem splitB_cutS (s : ByteArray) : (Go.Lib.splitB ⟨#[47]⟩ 0 (Go.Lib.countB s ⟨#[47]⟩) s).map (·.data.toList) = cutS s.data.toList := by
  rw [Go.Lib.splitB_data]
  have h : Go.Lib.countB s ⟨#[47]⟩ = s.data.toList.count 47 := Go.Lib.count_one 47 s.data.toList
  rw [h]
  exact splitK_cutS _ _ rfl
theorem lastIndex_par (l : Bs) (hl : (parP l = [] ∧ l = lastP l) ∨ (parP l ≠ [] ∧ l = parP l ++ 47 :: lastP l)) : l.take (max (Go.Lib.lastIndex l [47]) 0).toNat = parP l ∧ max (Go.Lib.lastIndex l [47]) 0 ≤ l.length := by
  have hf := lastP_free l
  unfold Go.Lib.lastIndex
  have hocc : ∀ i, Go.Lib.occAt l [47] i = true ↔ l[i]? = some 47 := by
    intro i
    unfold Go.Lib.occAt
    cases hd : l.drop i with
    | nil =>
      have : l.length ≤ i := List.drop_eq_nil_iff.1 hd
      rw [List.getElem?_eq_none this]
      simp [List.isPrefixOf]
    | cons c m =>
      have h1 : l[i]? = some c := by
        have := congrArg List.head? hd
        rw [List.head?_drop] at this
        simpa using this
      rw [h1]
      simp [List.isPrefixOf]
      exact ⟨fun e => e.symm, fun e => e.symm⟩
  have hsp := fun k => Go.Lib.lastOcc_spec l [47] k
  rcases hl with ⟨h1, h2⟩ | ⟨h1, h2⟩
  · have hno : ∀ i : Nat, l[i]? ≠ some 47 := fun i e => by
      have h3 : (47 : UInt8) ∈ l := List.mem_of_getElem? e
      rw [h2] at h3
      exact hf h3
    have hm : ∀ k, Go.Lib.lastOcc l [47] k = -1 := by
      intro k
      induction k with
      | zero => rfl
      | succ k ih =>
        rw [Go.Lib.lastOcc_miss _ _ _ (by rw [← Bool.not_eq_true]; exact fun e => hno k ((hocc k).1 e)), ih]
    rw [h1]
    split
    · rw [hm, show (max (-1 : Int) 0) = 0 by omega]
      exact ⟨rfl, by omega⟩
    · rw [show (max (-1 : Int) 0) = 0 by omega]
      exact ⟨rfl, by omega⟩
  · have hlen := congrArg List.length h2
    rw [List.length_append, List.length_cons] at hlen
    have hat : l[(parP l).length]? = some 47 := by 
      have : (parP l ++ 47 :: lastP l)[(parP l).length]? = some 47 := by simp
      rwa [← h2] at this
    have hbeh : ∀ i, (parP l).length < i → l[i]? ≠ some 47 := fun i hi e => by
      have e2 : (parP l ++ 47 :: lastP l)[i]? = some 47 := by rw [← h2]; exact e
      rw [List.getElem?_append_right (by omega)] at e2
      obtain ⟨t, ht⟩ : ∃ t, i - (parP l).length = t + 1 := ⟨i - (parP l).length - 1, by omega⟩
      rw [ht, List.getElem?_cons_succ] at e2
      exact hf (List.mem_of_getElem? e2)
    have hm : ∀ d, Go.Lib.lastOcc l [47] ((parP l).length + 1 + d) = ((parP l).length : Int) := by
      intro d
      induction d with
      | zero => exact Go.Lib.lastOcc_hit _ _ _ ((hocc _).2 hat)
      | succ d ih =>
        rw [show (parP l).length + 1 + (d + 1) = ((parP l).length + 1 + d) + 1 by omega, Go.Lib.lastOcc_miss _ _ _ (by rw [← Bool.not_eq_true]; exact fun e => hbeh _ (by omega) ((hocc _).1 e)), ih]
    rw [if_pos (by simp; omega)]
    have h3 : l.length - ([47] : Bs).length + 1 = (parP l).length + 1 + (lastP l).length := by simp; omega
    rw [h3, hm]
    have h4 : (max ((parP l).length : Int) 0).toNat = (parP l).length := by omega
    rw [h4]
    refine ⟨?_, by omega⟩
    have h5 : ∀ p q : Bs, (p ++ q).take p.length = p := fun p q => by rw [List.take_append_of_le_length (Nat.le_refl _), List.take_length]
    have h6 := h5 (parP l) (47 :: lastP l)
    rwa [← h2] at h6
end Go.Proofs.YtmcbnhkcjhlbaaaGreatDoor.Tp
end
section
namespace Go.Proofs.YtmcbnhkcjhlbaaaGreatDoor.Tp
open Go.RowKit
open Kit (Chg)
open Go.Proofs.YtmcbnhkcjhlbaaaGreatDoor.One

set_option maxRecDepth 1000000 in
set_option maxHeartbeats 1000000 in
theorem isText_any (s : ByteArray) (hs : s.size ≤ 4000000) (w : World) (hT : Top w) : Calls Tryz.prog 149 #[.string s] w fun e w' => e = .returned (.bool (textB s.data.toList)) ∧ Below w.heap.size w w' := by
  have HTP := Lib.hid hT
  have HV := Lib.hid (fun (W : World) (h : Top W) => utf8_ValidString s W (by omega) h.utf)
  obtain ⟨T, hT2⟩ : ∃ T, textB s.data.toList = T := ⟨_, rfl⟩
  have HT := Lib.hid hT2
  rw [hT2]
  clear hT2 hs hT
  go_enter Tryz.func149, Tryz.ntmps149
  go_wp2
  go_loopw [] (fun wr => ∃ p : Nat, wr = w.iter s p ∧ p ≤ s.size ∧ ∀ c ∈ s.data.toList.take p, 32 ≤ c.toNat) (fun wr => s.size - wr.iterPos w.heap.size)
  case atStart => exact ⟨0, rfl, Nat.zero_le _, by simp⟩
  case round =>
    obtain ⟨p, rfl, hp, hC⟩ := hrel
    have HC := Lib.hid hC
    clear hC
    by_cases hlt : p < s.size
    · have hn := fun ty => run_next_any (P := Tryz.prog) w s p ty hlt
      obtain ⟨r, hr⟩ : ∃ r, (Utf8.decode s p).1 = r := ⟨_, rfl⟩
      obtain ⟨k, hk⟩ : ∃ k, (Utf8.decode s p).2 = k := ⟨_, rfl⟩
      rw [hr, hk] at hn
      have hdl := dec_low (s.data.toList.drop p) (drop_ne s p hlt)
      rw [← dec_drop s p (by omega), hr, hk] at hdl
      have HD := Lib.hid hdl
      have HW : Hid (1 ≤ k ∧ p + k ≤ s.size) := Lib.hid (by
        refine ⟨by rw [← hk]; exact Lib.width_pos s p, ?_⟩
        have := Lib.decodeL_le _ (drop_ne s p hlt)
        rw [← dec_drop s p (by omega), hk, List.length_drop, bytes_len] at this
        omega)
      clear hr hk hdl
      by_cases hlow : r < 32
      · have hz : (r : Int) < 32 := by omega
        have HF : Hid (T = false) := Lib.hid (by
          rw [← HT.out]
          unfold textB
          rw [Bool.and_eq_false_iff]
          have h1 := HD.out.1.1 hlow
          rw [drop_get, Nat.add_zero, List.getD_eq_getElem?_getD, byte_get s p hlt] at h1
          refine .inl (List.all_eq_false.2 ⟨s[p], List.mem_of_getElem? (byte_get s p hlt), ?_⟩)
          simp at h1 ⊢
          omega)
        go_wp2
        go_ret
        exact ⟨by rw [HF.out]; rfl, (Below.refl _ _).alloc (Nat.le_refl _) _⟩
      · have hz : ¬ (r : Int) < 32 := by omega
        have HL := Lib.hid hlow
        go_wp2
        go_roundw
        case rel =>
          refine ⟨p + k, rfl, HW.out.2, take_all_step _ p k HC.out (fun i hi => ?_)⟩
          by_cases h0 : i = 0
          · subst h0
            have h1 := HD.out.1
            rw [drop_get] at h1
            have := HL.out
            exact Nat.le_of_not_lt (fun h => this (h1.2 h))
          · have h1 := HD.out.2.1 i (by omega) hi
            rwa [drop_get] at h1
        case measure => have := HW.out; rw [World.iterPos_iter, World.iterPos_iter]; omega
    · have hn := fun ty => run_next_end (P := Tryz.prog) w s p ty hlt
      have HF : Hid (Lib.validD s.data.toList = T) := Lib.hid (by
        rw [← HT.out]
        unfold textB
        have h1 : s.data.toList.all (fun c => decide (32 ≤ c.toNat)) = true := by
          rw [List.all_eq_true]
          intro c hc
          rw [decide_eq_true_eq]
          refine HC.out c ?_
          rw [List.take_of_length_le (by rw [bytes_len]; omega)]
          exact hc
        rw [h1, Bool.true_and])
      have hbw : Below w.heap.size w (w.iter s p) := (Below.refl _ _).alloc (Nat.le_refl _) _
      have HB := Lib.hid hbw
      clear hbw
      have HVV := Lib.hid (HV.out _ (HTP.out.later HB.out))
      have HTT := HF.out
      rw [HTT] at HVV
      clear HTT
      go_wp2_with fail
      refine HVV.out.mono ?_
      rintro e w1 ⟨rfl, hb1⟩
      have HB1 := Lib.hid hb1
      clear hb1
      go_wp2
      go_ret
      exact ⟨rfl, HB.out.trans (HB1.out.mono HB.out.size)⟩
theorem indexByte_free (l : Bs) (h : 47 ∉ l) : ¬ 0 ≤ Lib.indexByte l 47 := by
  induction l with
  | nil => simp [Lib.indexByte]
  | cons c l ih =>
    have hc : c ≠ 47 := fun e => h (by rw [e]; simp)
    have ih := ih (fun e => h (List.mem_cons_of_mem _ e))
    unfold Lib.indexByte
    simp [hc]
    omega
set_option maxRecDepth 100000 in
set_option maxHeartbeats 1000000 in
theorem isComponent_ok (s : ByteArray) (hc : CompP s.data.toList) (hf : 47 ∉ s.data.toList) (w : World) (hT : Top w) : Calls Tryz.prog 103 #[.string s] w fun e w' => e = .returned (.bool true) ∧ Below w.heap.size w w' := by
  have hsz : s.size ≤ 64 := by have := hc.len; rw [bytes_len] at this; exact this
  have htx : textB s.data.toList = true := textB_iff.2 ⟨hc.low, hc.utf⟩
  have HI : Hid (Calls Tryz.prog 149 #[.string s] w fun e w' => e = .returned (.bool true) ∧ Below w.heap.size w w') := Lib.hid (by rw [← htx]; exact isText_any s (by omega) w hT)
  have hct : decide (0 ≤ Lib.indexByte s.data.toList 47) = false := decide_eq_false (indexByte_free _ hf)
  have HC : Hid (∀ W, Calls Tryz.prog 102 #[.string s, .string ⟨#[47]⟩] W fun e w' => e = .returned (.bool false) ∧ w' = W) := Lib.hid (fun W => by rw [← hct]; exact strings_Contains_one s 47 W)
  have e0 : s.toList.isEmpty = false := by rw [Lib.toList_data, List.isEmpty_eq_false_iff]; exact hc.ne
  have e1 : (s.toList == [46]) = false := by rw [beq_eq_false_iff_ne, Lib.toList_data]; exact hc.dot
  have e2 : (s.toList == [46, 46]) = false := by rw [beq_eq_false_iff_ne, Lib.toList_data]; exact hc.dots
  have e3 : (s.size : Int) ≤ 64 := by omega
  clear hct htx hc hf
  go_enter Tryz.func103, Tryz.ntmps103
  go_wp2_with (first | (go_at_call 102; (with_reducible refine (HC.out _).mono ?_); rintro e w1 ⟨rfl, rfl⟩) | (go_at_call 149; (with_reducible refine HI.out.mono ?_); rintro e w2 ⟨rfl, hb⟩))
  go_ret
  exact ⟨rfl, hb⟩
set_option maxRecDepth 100000 in
set_option maxHeartbeats 2000000 in
theorem split_ok (s : ByteArray) (hv : VP s.data.toList) (w : World) (hT : Top w) : Calls Tryz.prog 61 #[.string s] w fun e w' => ∃ (a : Option Addr) (n : Nat), e = .returned (.tuple #[.slice a n n, .int .i64 0]) ∧ ∃ ss : List ByteArray, ss.length = n ∧ StrsAt w' a ss ∧ ss.map (·.data.toList) = cutS s.data.toList ∧ Below w.heap.size w w' := by
  have hsz : s.size ≤ 512 := by have := hv.len; rw [bytes_len] at this; exact this
  obtain ⟨m, hm⟩ := hT.mx
  obtain ⟨ss, hss⟩ : ∃ ss, Lib.splitB ⟨#[47]⟩ 0 (Lib.countB s ⟨#[47]⟩) s = ss := ⟨_, rfl⟩
  have hcut : ss.map (·.data.toList) = cutS s.data.toList := by rw [← hss]; exact splitB_cutS s
  have hlen : Lib.countB s ⟨#[47]⟩ + 1 = ss.length := by rw [← hss, Lib.splitB_all ⟨#[47]⟩ (by decide) 0 _ s rfl]
  obtain ⟨n, hn⟩ : ∃ n, ss.length = n := ⟨_, rfl⟩
  have hn16 : n ≤ 16 := by have := congrArg List.length hcut; rw [List.length_map, hn] at this; have := hv.lev; omega
  have HSP : Hid (Calls Tryz.prog 58 #[.string s, .string ⟨#[47]⟩] w fun e w' => e = .returned (.slice (some ⟨w.heap.size, 0, none⟩) n n) ∧ w' = w.alloc (.cells (ss.map Value.string).toArray 9)) := Lib.hid (by
    have h := strings_Split s ⟨#[47]⟩ m w (by omega) hm (by decide)
    rw [hlen, hss, hn] at h
    exact h)
  have HCUT := Lib.hid hcut
  have HN := Lib.hid hn
  have HV := Lib.hid hv
  have HTP := Lib.hid hT
  clear hss hlen hcut hm hn hv hT
  go_enter Tryz.func61, Tryz.ntmps61
  go_wp2_with (go_at_call 58; (with_reducible refine HSP.out.mono ?_); rintro e W ⟨rfl, hW⟩; have HW := Lib.hid hW; clear hW)
  obtain ⟨N, hN⟩ : ∃ N, w.heap.size = N := ⟨_, rfl⟩
  have hst : StrsAt W (some ⟨w.heap.size, 0, none⟩) ss := by
    rw [HW.out]
    exact strs_of_row (t := 9) (heap_alloc_new w _)
  have hbw : Below w.heap.size w W := by rw [HW.out]; exact (Below.refl _ _).alloc (Nat.le_refl _) _
  rw [hN] at hst ⊢
  have HST := Lib.hid hst
  have HB := Lib.hid hbw
  have HNN := Lib.hid hN
  clear hst hbw hN
  go_loopw [17] (fun i wr => ∃ k : Nat, k ≤ n ∧ i = .int .i64 k ∧ Below W.heap.size W wr) (fun i _ => n - (intOf i).toNat)
  case atStart => exact ⟨0, Nat.zero_le _, rfl, Below.refl _ _⟩
  case round =>
    obtain ⟨k, hk, rfl, hb⟩ := hrel
    have HBR := Lib.hid hb
    clear hb
    by_cases hlt : k < n
    · have hcell : wr.cell? ⟨N, k, none⟩ = some (.string (ss.getD k ByteArray.empty)) := by
        rcases HST.out.later HBR.out with h | ⟨b, o, e, h⟩
        · have := HN.out; rw [h] at this; simp at this; omega
        · cases e
          have := h k (by rw [HN.out]; exact hlt)
          rwa [Nat.zero_add] at this
      obtain ⟨p, hp⟩ : ∃ p, ss.getD k ByteArray.empty = p := ⟨_, rfl⟩
      rw [hp] at hcell
      have hpm : p.data.toList ∈ cutS s.data.toList := by
        rw [← HCUT.out, ← hp, List.getD_eq_getElem?_getD, List.getElem?_eq_getElem (by rw [HN.out]; exact hlt)]
        exact List.mem_map.2 ⟨_, List.getElem_mem _, rfl⟩
      have HCP := Lib.hid (isComponent_ok p (HV.out.comp _ hpm) (cutS_free _ _ hpm) wr (HTP.out.later (HB.out.trans (HBR.out.mono HB.out.size))))
      clear hp hpm
      go_wp2_with fail
      refine HCP.out.mono ?_
      rintro e w1 ⟨rfl, hb1⟩
      have HB1 := Lib.hid hb1
      clear hb1
      go_wp2
      go_roundw
      case rel => exact ⟨k + 1, by omega, by go_num, HBR.out.trans (HB1.out.mono HBR.out.size)⟩
      case measure => simp [intOf]; omega
    · go_wp2
      go_ret2
      exact ⟨_, n, rfl, ss, HN.out, HST.out.later HBR.out, HCUT.out, HB.out.trans (HBR.out.mono HB.out.size)⟩
set_option maxHeartbeats 1000000 in
theorem valid18_ok (s : ByteArray) (hv : VP s.data.toList) (w : World) (hT : Top w) : Calls Tryz.prog 70 #[.string s] w fun e w' => e = .returned (.bool true) ∧ Below w.heap.size w w' := by
  have HS := Lib.hid (split_ok s hv w hT)
  clear hv hT
  go_enter Tryz.func70, Tryz.ntmps70
  go_wp2_with (go_at_call 61; (with_reducible refine HS.out.mono ?_); rintro e W ⟨a, n, rfl, ss, hn, hst, hcut, hb⟩; have HB := Lib.hid hb; clear hn hst hcut hb)
  go_ret
  exact ⟨rfl, HB.out⟩
set_option maxHeartbeats 1000000 in
theorem parent_ok (s : ByteArray) (hv : VP s.data.toList) (w : World) (hT : Top w) : Calls Tryz.prog 31 #[.string s] w fun e w' => ∃ u : ByteArray, e = .returned (.tuple #[.string u, .bool true]) ∧ u.data.toList = parP s.data.toList ∧ Below w.heap.size w w' := by
  have hsz : s.size ≤ 512 := by have := hv.len; rw [bytes_len] at this; exact this
  have HS := Lib.hid (valid18_ok s hv w hT)
  have hpar := lastIndex_par s.data.toList (by
    rcases hv.par with ⟨h1, h2, _⟩ | h
    · exact .inl ⟨h1, h2⟩
    · exact .inr h)
  obtain ⟨q, hq⟩ : ∃ q : Int, Lib.lastIndex s.data.toList [47] = q := ⟨_, rfl⟩
  have HL : Hid (∀ W, Calls Tryz.prog 71 #[.string s, .string ⟨#[47]⟩] W fun e w' => e = .returned (.int .i64 q) ∧ w' = W) := Lib.hid (fun W => by rw [← hq]; exact strings_LastIndex s ⟨#[47]⟩ (by omega) W)
  rw [hq] at hpar
  obtain ⟨j, hj⟩ : ∃ j : Nat, max q 0 = (j : Int) := ⟨(max q 0).toNat, by omega⟩
  rw [hj, bytes_len] at hpar
  have hjs : j ≤ s.size := by have := hpar.2; omega
  have HP : Hid ((s.extract 0 j).data.toList = parP s.data.toList) := Lib.hid (by
    rw [extract_data, List.drop_zero]
    exact hpar.1)
  have hjz : (j : Int) ≤ (s.size : Int) := by omega
  clear hq hpar hv hT
  go_enter Tryz.func31, Tryz.ntmps31
  go_wp2_with (first | (go_at_call 70; (with_reducible refine HS.out.mono ?_); rintro e W ⟨rfl, hb⟩; have HB := Lib.hid hb; clear hb) | (go_at_call 71; (with_reducible refine (HL.out _).mono ?_); rintro e w1 ⟨rfl, rfl⟩))
  go_ret2
  exact ⟨_, rfl, HP.out, HB.out⟩
end Go.Proofs.YtmcbnhkcjhlbaaaGreatDoor.Tp
end
section
namespace Go.Proofs.YtmcbnhkcjhlbaaaGreatDoor.Tp
open Go.RowKit
open Kit (Chg)
open Go.Maps
open Go.WideMaps
open Go.Proofs.YtmcbnhkcjhlbaaaGreatDoor.One

theorem strK : Keyed Tryz.prog 9 := string_keyed Tryz.underlying9
theorem keyS {s : ByteArray} (hs : s.size ≤ maxLen) : keyOf Tryz.prog 9 (.string s) = some (.string s.data.toList) := keyOf_string_mk Tryz.underlying9 hs
theorem keyS_inv {x : Value} {l : Lit} (h : keyOf Tryz.prog 9 x = some l) : ∃ s : ByteArray, x = .string s ∧ s.size ≤ maxLen := by
  obtain ⟨s, e, _, hs⟩ := string_of_keyOf Tryz.underlying9 h
  exact ⟨s, e, hs⟩
def liftS (F : Bs → Option Value) : Value → Option Value
  | .string s => F s.data.toList
  | _ => none
def MapS (w : World) (b n : Nat) (F : Bs → Option Value) : Prop := MapV Tryz.prog 9 w b n (liftS F)
theorem MapS.start (w : World) : MapS (w.alloc (.map #[] 0)) w.heap.size 0 (fun _ => none) := (MapV.start (P := Tryz.prog) (k := 9) w).congr (fun key kl h => by obtain ⟨s, rfl, _⟩ := keyS_inv h; rfl)
theorem MapS.lt {w : World} {b n : Nat} {F : Bs → Option Value} (h : MapS w b n F) : b < w.heap.size := MapV.lt h
theorem MapS.keep {w w' : World} {b n : Nat} {F : Bs → Option Value} (h : MapS w b n F) (he : w'.heap[b]? = w.heap[b]?) : MapS w' b n F := MapV.keep h he
theorem MapS.later {w w' : World} {b n : Nat} {F : Bs → Option Value} (h : MapS w b n F) (hb : Below w.heap.size w w') : MapS w' b n F := MapV.later h hb
theorem MapS.low {w w' : World} {b n N : Nat} {F : Bs → Option Value} (h : MapS w b n F) (hb : Below N w w') (hN : b < N) : MapS w' b n F := h.keep (hb.block b hN)
theorem MapS.grown {w w' : World} {b n : Nat} {row : Option Nat} {F : Bs → Option Value} (h : MapS w b n F) (hg : w.grownBy w' row) (hr : row ≠ some b) : MapS w' b n F := h.keep (hg.block b h.lt (fun e => hr e.symm))
theorem MapS.mono {w : World} {b n n' : Nat} {F : Bs → Option Value} (h : MapS w b n F) (hn : n ≤ n') : MapS w b n' F := MapV.mono h hn
theorem MapS.congr {w : World} {b n : Nat} {F G : Bs → Option Value} (h : MapS w b n F) (he : ∀ p, G p = F p) : MapS w b n G := by
  have : G = F := funext he
  rw [this]
  exact h
theorem MapS.look {t e : TypeId} {w : World} {b n : Nat} {F : Bs → Option Value} (h : MapS w b n F) (ht : Tryz.prog.underlying t = some (.map 9 e)) {z : Value} (hz : (zeroValue e).run Tryz.prog w = .ok z w) (s : ByteArray) (hs : s.size ≤ maxLen) :
    (Instr.lookup t (.map (some b)) (.string s) true).run Tryz.prog w = .ok (.tuple #[(F s.data.toList).getD z, .bool (F s.data.toList).isSome]) w := MapV.look h strK ht hz (keyS hs)
theorem MapS.look1 {t e : TypeId} {w : World} {b n : Nat} {F : Bs → Option Value} (h : MapS w b n F) (ht : Tryz.prog.underlying t = some (.map 9 e)) {z : Value} (hz : (zeroValue e).run Tryz.prog w = .ok z w) (s : ByteArray) (hs : s.size ≤ maxLen) :
    (Instr.lookup t (.map (some b)) (.string s) false).run Tryz.prog w = .ok ((F s.data.toList).getD z) w := MapV.look1 h strK ht hz (keyS hs)
theorem MapS.put {t e : TypeId} {w : World} {b n : Nat} {F : Bs → Option Value} (h : MapS w b n F) (ht : Tryz.prog.underlying t = some (.map 9 e)) (hn : n < maxLen) (s : ByteArray) (hs : s.size ≤ maxLen) (v : Value) :
    ∃ w', (Instr.mapUpdate t (.map (some b)) (.string s) v).run Tryz.prog w = .ok () w' ∧ MapS w' b (n + 1) (fun p => if p = s.data.toList then some v else F p) ∧ w.grownBy w' (some b) ∧ w'.heap.size = w.heap.size := by
  refine MapV.put h strK ht hn (keyS hs) v _ ?_ ?_
  · show (if s.data.toList = s.data.toList then some v else _) = _
    rw [if_pos rfl]
  · intro x l hx hne
    obtain ⟨u, rfl, _⟩ := keyS_inv hx
    show (if u.data.toList = s.data.toList then some v else _) = _
    rw [if_neg]
    · rfl
    · intro e
      apply hne
      rw [str_ext e]
theorem MapS.del {t e : TypeId} {w : World} {b n : Nat} {F : Bs → Option Value} (h : MapS w b n F) (ht : Tryz.prog.underlying t = some (.map 9 e)) (s : ByteArray) (hs : s.size ≤ maxLen) (ty : TypeId) :
    ∃ w', (Builtin.delete_ #[t, 9] ty #[.map (some b), .string s]).run Tryz.prog w = .ok (.tuple #[]) w' ∧ MapS w' b n (fun p => if p = s.data.toList then none else F p) ∧ w.grownBy w' (some b) ∧ w'.heap.size = w.heap.size := by
  refine MapV.del h strK ht (keyS hs) ty _ ?_ ?_
  · show (if s.data.toList = s.data.toList then none else _) = _
    rw [if_pos rfl]
  · intro x l hx hne
    obtain ⟨u, rfl, _⟩ := keyS_inv hx
    show (if u.data.toList = s.data.toList then none else _) = _
    rw [if_neg]
    · rfl
    · intro e
      apply hne
      rw [str_ext e]
theorem run_makeMap_hint {P : Program} {t k e : TypeId} (ht : P.underlying t = some (.map k e)) (n : Int) (w : World) : (Instr.makeMap t (some (.int .i64 n))).run P w = .ok (.map (some w.heap.size)) (w.alloc (.map #[] 0)) := by
  simp [Instr.makeMap, run_underlying ht, asInt, asIntOf]
theorem size_maxLen {s : ByteArray} (h : s.size ≤ 4000000) : s.size ≤ maxLen := by unfold maxLen; omega
end Go.Proofs.YtmcbnhkcjhlbaaaGreatDoor.Tp
end
section
namespace Go.Proofs.YtmcbnhkcjhlbaaaGreatDoor.Tp
open Go.RowKit
open Kit (Chg)
open Go.Maps
open Go.WideMaps
open Go.Proofs.YtmcbnhkcjhlbaaaGreatDoor.One

theorem indexByte_zero (l : Bs) (h : ∀ c ∈ l, c ≠ 0) : Lib.indexByte l 0 < 0 := by
  induction l with
  | nil => simp [Lib.indexByte]
  | cons c l ih =>
    have hc : c ≠ 0 := h c (by simp)
    have ih := ih (fun x hx => h x (List.mem_cons_of_mem _ hx))
    unfold Lib.indexByte
    simp [hc]
    omega
theorem validLink_ok (s : ByteArray) (h1 : 1 ≤ s.size) (h2 : s.size ≤ 512) (h3 : ∀ c ∈ s.data.toList, c ≠ 0) (w : World) : Calls Tryz.prog 94 #[.string s] w fun e w' => e = .returned (.bool true) ∧ w' = w := by
  obtain ⟨q, hq⟩ : ∃ q, Lib.indexByte s.data.toList 0 = q := ⟨_, rfl⟩
  have hn : q < 0 := by rw [← hq]; exact indexByte_zero _ h3
  have HI : Hid (∀ W, Calls Tryz.prog 141 #[.string s, .int .u8 0] W fun e w' => e = .returned (.int .i64 q) ∧ w' = W) := Lib.hid (fun W => by rw [← hq]; exact strings_IndexByte s 0 W)
  have hz1 : (1 : Int) ≤ (s.size : Int) := by omega
  have hz2 : (s.size : Int) ≤ 512 := by omega
  have hd : decide (q < 0) = true := decide_eq_true hn
  clear hq h3
  go_enter Tryz.func94, Tryz.ntmps94
  go_wp2_with (go_at_call 141; (with_reducible refine (HI.out _).mono ?_); rintro e w1 ⟨rfl, rfl⟩)
  all_goals go_ret
  all_goals first
    | exact ⟨rfl, rfl⟩
    | omega
set_option maxRecDepth 100000 in
set_option maxHeartbeats 4000000 in
theorem valid20_ok (x : FV) (w : World) (hx : x.ok w) (he : x.e.ok) (hT : Top w) : Calls Tryz.prog 51 #[.agg x.row] w fun e w' => e = .returned (.bool true) ∧ Below w.heap.size w w' := by
  have HV := Lib.hid (fun (W : World) (h : Below w.heap.size w W) => valid18_ok x.e.path he.vp W (hT.later h))
  have HLK := Lib.hid (fun (h : x.e.kind = 3) (W : World) => validLink_ok x.e.link (he.lnk h).2.1 (he.lnk h).2.2.1 (he.lnk h).2.2.2 W)
  have m0 := he.mode0
  have m1 := he.mode1
  have t0 := he.time0
  have HE := Lib.hid he
  obtain ⟨x, a, c⟩ := x
  obtain ⟨path, kind, mode, time, data, link⟩ := x
  dsimp only at HV HLK m0 m1 t0
  unfold FV.row
  dsimp only
  have z1 : ¬ mode < 0 := by omega
  have z2 : ¬ 511 < mode := by omega
  have z3 : ¬ time < 0 := by omega
  clear he hx hT
  go_enter Tryz.func51, Tryz.ntmps51
  go_wp2_with fail
  refine (HV.out _ ((Below.refl w.heap.size w).alloc (Nat.le_refl _) _)).mono ?_
  rintro e W ⟨rfl, hb⟩
  have hb' : Below w.heap.size w W := ((Below.refl w.heap.size w).alloc (Nat.le_refl _) _).trans (hb.mono (by simp))
  have HB := Lib.hid hb'
  obtain ⟨N, hN⟩ : ∃ N, w.heap.size = N := ⟨_, rfl⟩
  have h6 : SixAt W N 0 ⟨⟨path, kind, mode, time, data, link⟩, a, c⟩ := by
    refine SixAt.low (N := N + 1) (six_of_row (T := 54) (f := (0, 0)) ?_) (hb.mono (by simp [hN])) (Nat.lt_succ_self N)
    rw [← hN]
    exact heap_alloc_new w _
  obtain ⟨c0, c1, c2, c3, c4, c5⟩ := h6
  simp only [Nat.zero_add] at c0 c1 c2 c3 c4 c5
  clear hb hb'
  rw [hN]
  clear hN
  rcases HE.out.kinds with hk | hk | hk
  · have hk1 : kind = 1 := hk
    subst hk1
    have h1 := HE.out.file rfl
    have q1 : (data.length : Int) ≤ 1048576 := by have : data.length ≤ 1048576 := h1.1; omega
    have q2 : link.toList.isEmpty = true := by rw [Lib.toList_data, List.isEmpty_iff, ← List.length_eq_zero_iff, bytes_len]; exact h1.2
    clear h1 hk
    go_wp2
    go_ret
    exact ⟨rfl, HB.out⟩
  · have hk1 : kind = 2 := hk
    subst hk1
    have h1 := HE.out.dir rfl
    have hd : data = [] := h1.1
    subst hd
    have q2 : link.toList.isEmpty = true := by rw [Lib.toList_data, List.isEmpty_iff, ← List.length_eq_zero_iff, bytes_len]; exact h1.2
    clear h1 hk
    go_wp2
    go_ret
    exact ⟨rfl, HB.out⟩
  · have hk1 : kind = 3 := hk
    subst hk1
    have h1 := HE.out.lnk rfl
    have hd : data = [] := h1.1
    subst hd
    have HL := Lib.hid (HLK.out rfl)
    clear h1 hk HLK
    go_wp2_with (go_at_call 94; (with_reducible refine (HL.out _).mono ?_); rintro e w1 ⟨rfl, rfl⟩)
    go_ret
    exact ⟨rfl, HB.out⟩
def kindsF (es : List FE) (p : Bs) : Option Value := (es.reverse.find? fun e => decide (e.p = p)).map fun e => .int .i64 e.kind
theorem kindsF_snoc (es : List FE) (e : FE) (p : Bs) : kindsF (es ++ [e]) p = if p = e.p then some (.int .i64 e.kind) else kindsF es p := by
  unfold kindsF
  rw [List.reverse_append, List.reverse_cons, List.reverse_nil, List.nil_append, List.singleton_append, List.find?_cons]
  by_cases h : e.p = p
  · rw [if_pos h.symm, decide_eq_true h]; rfl
  · rw [if_neg (Ne.symm h), decide_eq_false h]
theorem kindsF_some {es : List FE} {p : Bs} {v : Value} (h : kindsF es p = some v) : ∃ e ∈ es, e.p = p ∧ v = .int .i64 e.kind := by
  unfold kindsF at h
  obtain ⟨e, he, hv⟩ := Option.map_eq_some_iff.1 h
  have h1 := List.find?_some he
  exact ⟨e, List.mem_reverse.1 (List.mem_of_find?_eq_some he), of_decide_eq_true h1, hv.symm⟩
theorem kindsF_none {es : List FE} {p : Bs} (h : kindsF es p = none) : ∀ e ∈ es, e.p ≠ p := by
  unfold kindsF at h
  have h1 := List.find?_eq_none.1 (Option.map_eq_none_iff.1 h)
  intro e he hp
  exact h1 e (List.mem_reverse.2 he) (by rw [decide_eq_true_eq]; exact hp)
theorem asc_inj {es : List FE} (h : es.Pairwise (fun a b => cmpP a.p b.p < 0)) {a b : FE} (ha : a ∈ es) (hb : b ∈ es) (he : a.p = b.p) : a = b := by
  induction es with
  | nil => cases ha
  | cons e es ih =>
    rw [List.pairwise_cons] at h
    rcases List.mem_cons.1 ha with h1 | h1 <;> rcases List.mem_cons.1 hb with h2 | h2
    · rw [h1, h2]
    · subst h1
      have := h.1 b h2
      rw [he, cmpP_self] at this
      omega
    · subst h2
      have := h.1 a h1
      rw [he, cmpP_self] at this
      omega
    · exact ih h.2 h1 h2
def CheckP (xs : List FV) (w : World) (e : Ending) (w' : World) : Prop := ∃ r : Int, e = .returned (.int .i64 r) ∧ (r = 0 ∨ r = 4 ∨ r = 13) ∧ (OkTree (xs.map FV.e) → r = 0) ∧ Below w.heap.size w w'
def ParOk (es : List FE) (e : FE) : Prop := parP e.p = [] ∨ kindsF es (parP e.p) = some (.int .i64 2)
theorem parOk_of {es : List FE} (h : OkTree es) (k : Nat) (hk : k < es.length) : ParOk (es.take k) es[k] := by
  by_cases h0 : parP es[k].p = []
  · exact .inl h0
  · obtain ⟨j, hj, h1, h2⟩ := h.par k hk h0
    refine .inr ?_
    cases hv : kindsF (es.take k) (parP es[k].p) with
    | none =>
      have := kindsF_none hv es[j] (List.mem_iff_getElem.2 ⟨j, by rw [List.length_take]; omega, by rw [List.getElem_take]⟩)
      exact absurd h1 this
    | some v =>
      obtain ⟨e, he, hp, rfl⟩ := kindsF_some hv
      have : e = es[j] := asc_inj h.asc (List.mem_of_mem_take he) (List.getElem_mem _) (hp.trans h1.symm)
      rw [this, h2]
theorem quiet_drawn {P : Program} {f : FuncId} {args : Array Value} {w : World} {n : Nat} {v : Value} (h : ∀ W, Calls P f args W fun e w' => e = .returned v ∧ Drawn W w') : Calls P f args (w.drewN n) fun e w'' => e = .returned v ∧ ∃ m, w'' = w.drewN m :=
  (h (w.drewN n)).mono fun _ _ ⟨he, m, hm⟩ => ⟨he, n + m, by rw [hm, World.drewN_drewN]⟩
set_option maxRecDepth 100000 in
set_option maxHeartbeats 4000000 in
theorem check_any (a : Option Addr) (n cap : Nat) (xs : List FV) (hn : xs.length = n) (hcap : n ≤ cap) (hm : n ≤ 4096) (w : World) (hX : FEsAt w a xs) (hok : ∀ x ∈ xs, x.e.ok) (hasc : (xs.map FV.e).Pairwise (fun a b => cmpP a.p b.p < 0)) (hT : Top w) : Calls Tryz.prog 20 #[.slice a n cap] w (CheckP xs w) := by
  have HN := Lib.hid hn
  have HX := Lib.hid hX
  have HOKS := Lib.hid hok
  have HASC := Lib.hid hasc
  have HTP := Lib.hid hT
  clear hn hX hok hasc hT
  have hz : ¬ (4096 : Int) < (n : Int) := by omega
  have hmm := fun (w : World) => run_makeMap_hint (t := 83) Tryz.underlying83 (n : Int) w
  go_enter Tryz.func20, Tryz.ntmps20
  go_upto_region 4 with fail
  refine wp_over (fun V => Hid (MapS V w.heap.size 0 (kindsF [])) ∧ Hid (Below w.heap.size w V)) ⟨Lib.hid ((MapS.start w).congr (fun p => rfl)), Lib.hid ((Below.refl _ _).alloc (Nat.le_refl _) _)⟩ ?_
  rintro W0 ⟨HM0, HB0⟩
  obtain ⟨bm, hbm⟩ := ex_eq w.heap.size
  rw [hbm] at HM0 ⊢
  have HBM : Hid (w.heap.size ≤ bm) := Lib.hid (by omega)
  clear hbm hmm
  go_wp2
  go_loopw [18] (fun i wr => ∃ k : Nat, k ≤ n ∧ i = .int .i64 k ∧ Below w.heap.size w wr ∧ MapS wr bm k (kindsF ((xs.take k).map FV.e))) (fun i _ => n - (intOf i).toNat)
  case atStart => exact ⟨0, Nat.zero_le _, rfl, HB0.out, HM0.out⟩
  case round =>
    obtain ⟨k, hk, rfl, hb, hP⟩ := hrel
    have HB := Lib.hid hb
    have HMK := Lib.hid hP
    clear hb hP
    by_cases hlt : k < n
    rotate_left
    · go_wp2
      go_ret
      exact ⟨0, rfl, .inl rfl, fun _ => rfl, HB.out⟩
    have hkx : k < xs.length := by rw [HN.out]; exact hlt
    have HXW := Lib.hid (HX.out.later HB.out)
    obtain ⟨b, o, rfl, c0, c1, c2, c3, c4, c5⟩ := HXW.out.six k hkx
    have HLT2 : Hid (b < wr.heap.size) := Lib.hid (World.block_lt_of_cell? wr _ c0)
    obtain ⟨x, hx⟩ : ∃ x, xs[k] = x := ⟨_, rfl⟩
    rw [hx] at c0 c1 c2 c3 c4 c5
    have hxo : x.ok wr := by rw [← hx]; exact HXW.out.2 _ (List.getElem_mem hkx)
    have hxe : x.e.ok := by rw [← hx]; exact HOKS.out _ (List.getElem_mem hkx)
    have htk : (xs.take (k + 1)).map FV.e = (xs.take k).map FV.e ++ [x.e] := by
      rw [List.take_succ_eq_append_getElem hkx, List.map_append, hx]
      rfl
    have HPO : Hid (OkTree (xs.map FV.e) → ParOk ((xs.take k).map FV.e) x.e) := Lib.hid (fun h => by
      have h1 := parOk_of h k (by rw [List.length_map]; exact hkx)
      rw [List.getElem_map, hx, ← List.map_take] at h1
      exact h1)
    -- the entry before this one
    have hprev : k = 0 ∨ ∃ (k0 : Nat) (y : FV), k = k0 + 1 ∧ y.e.path.size ≤ 4000000 ∧ wr.cell? ⟨b, o + k0 * 6, none⟩ = some (.string y.e.path) ∧ cmpP y.e.p x.e.p < 0 := by
      by_cases h0 : k = 0
      · exact .inl h0
      · obtain ⟨k0, rfl⟩ : ∃ k0, k = k0 + 1 := ⟨k - 1, by omega⟩
        have hk0 : k0 < xs.length := by omega
        obtain ⟨b', o', e, d0, _⟩ := HXW.out.six k0 hk0
        cases e
        refine .inr ⟨k0, xs[k0], rfl, (HXW.out.2 _ (List.getElem_mem hk0)).sp, d0, ?_⟩
        have h1 := List.pairwise_iff_getElem.1 HASC.out k0 (k0 + 1) (by rw [List.length_map]; exact hk0) (by rw [List.length_map]; exact hkx) (Nat.lt_succ_self _)
        rw [List.getElem_map, List.getElem_map, hx] at h1
        exact h1
    clear hx
    obtain ⟨⟨path, kind, mode, time, data, link⟩, da, dc⟩ := x
    have HTK := Lib.hid htk
    have HXO := Lib.hid hxo
    have HXE := Lib.hid hxe
    have HPR := Lib.hid hprev
    clear htk hxo hprev hxe
    dsimp only at c0 c1 c2 c3 c4 c5
    go_upto_region 7 with fail
    refine wp_over (fun V => Hid (V.cell? ⟨wr.heap.size, 0, none⟩ = some (.string path) ∧ V.cell? ⟨wr.heap.size, 1, none⟩ = some (.int .i64 kind) ∧ V.cell? ⟨wr.heap.size, 2, none⟩ = some (.int .i64 mode) ∧ V.cell? ⟨wr.heap.size, 3, none⟩ = some (.int .i64 time) ∧ V.cell? ⟨wr.heap.size, 4, none⟩ = some (.slice da data.length dc) ∧ V.cell? ⟨wr.heap.size, 5, none⟩ = some (.string link)) ∧ Hid (Below wr.heap.size wr V) ∧ Hid (V.heap.size = wr.heap.size + 1)) ⟨Lib.hid (new_row6 (x := (⟨⟨path, kind, mode, time, data, link⟩, da, dc⟩ : FV))), Lib.hid ((Below.refl _ _).alloc (Nat.le_refl _) _), Lib.hid (by simp)⟩ ?_
    rintro W ⟨H6, HWB, HWS⟩
    have HBMW : Hid (bm < wr.heap.size) := Lib.hid HMK.out.lt
    obtain ⟨N, hN⟩ := ex_eq wr.heap.size
    rw [hN] at H6 HWB HWS HLT2 HBMW ⊢
    have HNW := Lib.hid hN
    clear hN
    have HXV : Hid (∀ V, Below (N + 1) W V → Below N wr V) := Lib.hid (fun V h => HWB.out.trans (h.mono (by omega)))
    have HBW : Hid (∀ V, Below (N + 1) W V → Below w.heap.size w V) := Lib.hid (fun V h => HB.out.trans ((HXV.out V h).mono (by rw [← HNW.out]; exact HB.out.size)))
    have HST : Hid (∀ V V', Below (N + 1) W V → Below V.heap.size V V' → Below (N + 1) W V') := Lib.hid (fun V V' h h' => h.trans (h'.mono (by have := h.size; have := HWS.out; omega)))
    have HV : Hid (∀ V, Below (N + 1) W V → Calls Tryz.prog 51 #[.agg #[.string path, .int .i64 kind, .int .i64 mode, .int .i64 time, .slice da data.length dc, .string link]] V fun e w' => e = .returned (.bool true) ∧ Below V.heap.size V w') := Lib.hid (fun V h => valid20_ok (⟨⟨path, kind, mode, time, data, link⟩, da, dc⟩ : FV) V (HXO.out.later (by rw [HNW.out]; exact HXV.out V h)) HXE.out (HTP.out.later (HBW.out V h)))
    have HPA : Hid (∀ V, Below (N + 1) W V → Calls Tryz.prog 31 #[.string path] V fun e w' => ∃ u : ByteArray, e = .returned (.tuple #[.string u, .bool true]) ∧ u.data.toList = parP path.data.toList ∧ Below V.heap.size V w') := Lib.hid (fun V h => parent_ok path HXE.out.vp V (HTP.out.later (HBW.out V h)))
    have HC6 : Hid (∀ V, Below (N + 1) W V → V.cell? ⟨N, 0, none⟩ = some (.string path) ∧ V.cell? ⟨N, 1, none⟩ = some (.int .i64 kind) ∧ V.cell? ⟨N, 2, none⟩ = some (.int .i64 mode) ∧ V.cell? ⟨N, 3, none⟩ = some (.int .i64 time) ∧ V.cell? ⟨N, 4, none⟩ = some (.slice da data.length dc) ∧ V.cell? ⟨N, 5, none⟩ = some (.string link)) := Lib.hid (fun V h => by
      have h1 : SixAt W N 0 (⟨⟨path, kind, mode, time, data, link⟩, da, dc⟩ : FV) := H6.out
      exact h1.low h (Nat.lt_succ_self N))
    have HMAP : Hid (∀ V, Below (N + 1) W V → MapS V bm k (kindsF ((xs.take k).map FV.e))) := Lib.hid (fun V h => HMK.out.low (HXV.out V h) HBMW.out)
    obtain ⟨c0, c1, c2, c3, c4, c5⟩ := HC6.out W (Below.refl _ _)
    go_wp2_with fail
    refine (HV.out W (Below.refl _ _)).mono ?_
    rintro e W1 ⟨rfl, hb1⟩
    have H1 : Hid (Below (N + 1) W W1) := Lib.hid (HST.out _ _ (Below.refl _ _) hb1)
    clear hb1 c0 c1 c2 c3 c4 c5
    obtain ⟨c0, c1, c2, c3, c4, c5⟩ := HC6.out W1 H1.out
    rcases HPR.out with h0 | ⟨k0, ⟨⟨pp, pk, pm, pt, pd, pl⟩, pda, pdc⟩, hk0, hps, d0, hlast⟩
    · have hz0 : ¬ 0 < k := by omega
      clear h0
      go_wp2_with fail
      go_quiet (fail)
      go_upto_region 11 with fail
      refine wp_over (fun V => Hid (Below (N + 1) W V)) (Lib.hid (below_drewNv H1.out _)) ?_
      rintro V8 HLAST
      clear c0 c1 c2 c3 c4 c5
      obtain ⟨c0, c1, c2, c3, c4, c5⟩ := HC6.out V8 HLAST.out
      go_wp2_with fail
      refine (HPA.out _ HLAST.out).mono ?_
      rintro e W2 ⟨u, rfl, hu, hb2⟩
      have HUU := Lib.hid hu
      have H2 : Hid (Below (N + 1) W W2) := Lib.hid (HST.out _ _ HLAST.out hb2)
      clear hu hb2
      obtain ⟨c0, c1, c2, c3, c4, c5⟩ := HC6.out _ H2.out
      have hmap := HMAP.out _ H2.out
      have hus : u.size ≤ maxLen := by
        have h1 := congrArg List.length HUU.out
        rw [bytes_len] at h1
        have h2 := joinP_dropLast path.data.toList
        rw [bytes_len] at h2
        have := HXO.out.sp
        unfold maxLen
        dsimp only at this
        omega
      have HMP := Lib.hid hmap
      have hlook := hmap.look (t := 83) (e := 3) Tryz.underlying83 (z := .int .i64 0) (by kernel_rfl) u hus
      rw [HUU.out] at hlook
      obtain ⟨W3, hput, hm3, hg3, hs3⟩ := hmap.put (t := 83) (e := 3) Tryz.underlying83 (by unfold maxLen; omega) path (size_maxLen HXO.out.sp) (.int .i64 kind)
      have H3 : Hid (Below w.heap.size w W3) := Lib.hid ((HBW.out _ H2.out).grown hg3 (HBW.out _ H2.out).size (fun q e => by cases e; exact HBM.out))
      have HREL : Hid (MapS W3 bm (k + 1) (kindsF ((xs.take (k + 1)).map FV.e))) := Lib.hid (by
        refine hm3.congr (fun p => ?_)
        rw [HTK.out, kindsF_snoc]
        rfl)
      clear hmap hm3 hg3 hs3 hus
      by_cases hp0 : parP path.data.toList = []
      · have hz0 : u.toList.isEmpty = true := by rw [Lib.toList_data, HUU.out, hp0]; rfl
        clear hlook hp0
        go_wp2_with fail
        go_roundw
        case rel => exact ⟨k + 1, by omega, by go_num, H3.out, HREL.out⟩
        case measure => simp [intOf]; omega
      · have hz0 : u.toList.isEmpty = false := by rw [Lib.toList_data, HUU.out, List.isEmpty_eq_false_iff]; exact hp0
        have HP0 := Lib.hid hp0
        clear hp0
        cases hkf : kindsF ((xs.take k).map FV.e) (parP path.data.toList) with
        | none =>
          rw [hkf] at hlook
          have HKF := Lib.hid hkf
          clear hkf
          dsimp only [Option.getD, Option.isSome] at hlook
          go_wp2_with fail
          go_ret
          refine ⟨4, rfl, .inr (.inl rfl), fun h => ?_, HBW.out _ H2.out⟩
          rcases HPO.out h with h1 | h1
          · exact absurd h1 HP0.out
          · have h2 := HKF.out
            have h3 := h1.symm.trans h2
            cases h3
        | some vv =>
          obtain ⟨ee, hee, _, hvv⟩ := kindsF_some hkf
          subst hvv
          rw [hkf] at hlook
          have HKF := Lib.hid hkf
          clear hkf hee
          dsimp only [Option.getD, Option.isSome] at hlook
          by_cases h2 : ee.kind = 2
          · have hq2 : (ee.kind != 2) = false := by rw [h2]; rfl
            clear h2
            go_wp2_with fail
            go_roundw
            case rel => exact ⟨k + 1, by omega, by go_num, H3.out, HREL.out⟩
            case measure => simp [intOf]; omega
          · have hq2 : (ee.kind != 2) = true := by rw [bne_iff_ne]; exact h2
            have HE2 := Lib.hid h2
            clear h2
            go_wp2_with fail
            go_ret
            refine ⟨13, rfl, .inr (.inr rfl), fun h => ?_, HBW.out _ H2.out⟩
            rcases HPO.out h with h1 | h1
            · exact absurd h1 HP0.out
            · have h3 := HKF.out
              have h4 := h1.symm.trans h3
              injection h4 with h4
              injection h4 with _ h4
              exact absurd h4.symm HE2.out
    · have hz0 : 0 < k := by omega
      have hki : (k : Int) - 1 = (k0 : Int) := by omega
      have hkn : (k0 : Int) < (n : Int) := by omega
      have hkw : IntKind.i64.wrap (k0 : Int) = (k0 : Int) := IntWalk.i64_in _ (by omega)
      have hk00 : (0 : Int) ≤ (k0 : Int) := by omega
      have d1 : W1.cell? ⟨b, o + k0 * 6, none⟩ = some (.string pp) := ((HXV.out W1 H1.out).cell (p := ⟨b, o + k0 * 6, none⟩) HLT2.out).trans d0
      obtain ⟨R, hR⟩ : ∃ R, cmpP pp.data.toList path.data.toList = R := ⟨_, rfl⟩
      have HCM : Hid (∀ V, Calls Tryz.prog 52 #[.string pp, .string path] V fun e w' => e = .returned (.int .i64 R) ∧ Drawn V w') := Lib.hid (fun V => by rw [← hR]; exact compare_any pp path hps HXO.out.sp V)
      have hq2 : decide (0 ≤ R) = false := decide_eq_false (by
        have : cmpP pp.data.toList path.data.toList < 0 := hlast
        omega)
      clear hk0 d0 hlast hR hps
      go_wp2_with fail
      go_quiet ((go_at_call 52; exact quiet_drawn HCM.out))
      go_upto_region 11 with fail
      refine wp_over (fun V => Hid (Below (N + 1) W V)) (Lib.hid (below_drewNv H1.out _)) ?_
      rintro V8 HLAST
      clear c0 c1 c2 c3 c4 c5 d1 hki hkn hkw hk00
      obtain ⟨c0, c1, c2, c3, c4, c5⟩ := HC6.out V8 HLAST.out
      go_wp2_with fail
      refine (HPA.out _ HLAST.out).mono ?_
      rintro e W2 ⟨u, rfl, hu, hb2⟩
      have HUU := Lib.hid hu
      have H2 : Hid (Below (N + 1) W W2) := Lib.hid (HST.out _ _ HLAST.out hb2)
      clear hu hb2
      obtain ⟨c0, c1, c2, c3, c4, c5⟩ := HC6.out _ H2.out
      have hmap := HMAP.out _ H2.out
      have hus : u.size ≤ maxLen := by
        have h1 := congrArg List.length HUU.out
        rw [bytes_len] at h1
        have h2 := joinP_dropLast path.data.toList
        rw [bytes_len] at h2
        have := HXO.out.sp
        unfold maxLen
        dsimp only at this
        omega
      have HMP := Lib.hid hmap
      have hlook := hmap.look (t := 83) (e := 3) Tryz.underlying83 (z := .int .i64 0) (by kernel_rfl) u hus
      rw [HUU.out] at hlook
      obtain ⟨W3, hput, hm3, hg3, hs3⟩ := hmap.put (t := 83) (e := 3) Tryz.underlying83 (by unfold maxLen; omega) path (size_maxLen HXO.out.sp) (.int .i64 kind)
      have H3 : Hid (Below w.heap.size w W3) := Lib.hid ((HBW.out _ H2.out).grown hg3 (HBW.out _ H2.out).size (fun q e => by cases e; exact HBM.out))
      have HREL : Hid (MapS W3 bm (k + 1) (kindsF ((xs.take (k + 1)).map FV.e))) := Lib.hid (by
        refine hm3.congr (fun p => ?_)
        rw [HTK.out, kindsF_snoc]
        rfl)
      clear hmap hm3 hg3 hs3 hus
      by_cases hp0 : parP path.data.toList = []
      · have hz0 : u.toList.isEmpty = true := by rw [Lib.toList_data, HUU.out, hp0]; rfl
        clear hlook hp0
        go_wp2_with fail
        go_roundw
        case rel => exact ⟨k + 1, by omega, by go_num, H3.out, HREL.out⟩
        case measure => simp [intOf]; omega
      · have hz0 : u.toList.isEmpty = false := by rw [Lib.toList_data, HUU.out, List.isEmpty_eq_false_iff]; exact hp0
        have HP0 := Lib.hid hp0
        clear hp0
        cases hkf : kindsF ((xs.take k).map FV.e) (parP path.data.toList) with
        | none =>
          rw [hkf] at hlook
          have HKF := Lib.hid hkf
          clear hkf
          dsimp only [Option.getD, Option.isSome] at hlook
          go_wp2_with fail
          go_ret
          refine ⟨4, rfl, .inr (.inl rfl), fun h => ?_, HBW.out _ H2.out⟩
          rcases HPO.out h with h1 | h1
          · exact absurd h1 HP0.out
          · have h2 := HKF.out
            have h3 := h1.symm.trans h2
            cases h3
        | some vv =>
          obtain ⟨ee, hee, _, hvv⟩ := kindsF_some hkf
          subst hvv
          rw [hkf] at hlook
          have HKF := Lib.hid hkf
          clear hkf hee
          dsimp only [Option.getD, Option.isSome] at hlook
          by_cases h2 : ee.kind = 2
          · have hq2 : (ee.kind != 2) = false := by rw [h2]; rfl
            clear h2
            go_wp2_with fail
            go_roundw
            case rel => exact ⟨k + 1, by omega, by go_num, H3.out, HREL.out⟩
            case measure => simp [intOf]; omega
          · have hq2 : (ee.kind != 2) = true := by rw [bne_iff_ne]; exact h2
            have HE2 := Lib.hid h2
            clear h2
            go_wp2_with fail
            go_ret
            refine ⟨13, rfl, .inr (.inr rfl), fun h => ?_, HBW.out _ H2.out⟩
            rcases HPO.out h with h1 | h1
            · exact absurd h1 HP0.out
            · have h3 := HKF.out
              have h4 := h1.symm.trans h3
              injection h4 with h4
              injection h4 with _ h4
              exact absurd h4.symm HE2.out
end Go.Proofs.YtmcbnhkcjhlbaaaGreatDoor.Tp
end
section
namespace Go.Proofs.YtmcbnhkcjhlbaaaGreatDoor.Tp
open Go.RowKit
open Kit (Chg)
open Go.Maps
open Go.WideMaps
open Go.WideElems
open Go.Proofs.YtmcbnhkcjhlbaaaGreatDoor.One

section
variable {P : Program} {k : TypeId}
theorem grownBy_setBlock {w : World} {b : Nat} {o : Obj} (h : b < w.heap.size) : w.grownBy (ChangeMaps.setBlock w b o) (some b) := by
  refine ⟨rfl, rfl, rfl, by simp [ChangeMaps.setBlock], fun i _ hi => ?_⟩
  unfold ChangeMaps.setBlock
  simp only
  rw [Array.getElem?_setIfInBounds_ne]
  rintro rfl
  exact hi rfl
theorem setBlock_at {w : World} {b : Nat} {o : Obj} (h : b < w.heap.size) : (ChangeMaps.setBlock w b o).heap[b]? = some o := by
  unfold ChangeMaps.setBlock
  simp [h]
theorem MapV.entry {t e : TypeId} {w : World} {b n : Nat} {f : Value → Option Value} (h : MapV P k w b n f) (KL : KeyLaw P k) (K : Keyed P k) (ht : P.underlying t = some (.map k e)) (hn : n < maxLen) {z : Value} (hz : ∀ u : World, (zeroValue e).run P u = .ok z u) {key : Value} {kl : Lit} (hk : keyOf P k key = some kl) :
    ∃ (st : Nat) (w1 : World), (Instr.mapEntry t (.map (some b)) key).run P w = .ok (.tuple #[(f key).getD z, .int .i64 st]) w1 ∧ w.grownBy w1 (some b) ∧ w1.heap.size = w.heap.size ∧
      ∀ (w2 : World) (val : Value) (g : Value → Option Value), w2.heap[b]? = w1.heap[b]? → g key = some val → (∀ x l, keyOf P k x = some l → x ≠ key → g x = f x) →
        ∃ w3, (Instr.entryStore t (.map (some b)) (.int .i64 st) val).run P w2 = .ok () w3 ∧ MapV P k w3 b (n + 1) g ∧ w2.grownBy w3 (some b) ∧ w3.heap.size = w2.heap.size := by
  have hlook := MapV.look1 h K ht (hz w) hk
  have hput := fun v g hg ho => MapV.put h K ht hn hk v g hg ho
  have hlt := MapV.lt h
  obtain ⟨D, ⟨es, clock, hb, F, hs, hD⟩, h2⟩ := h
  obtain ⟨v0, st, es1, clock1, r1, _, r2⟩ := entry_then_store KL ht hz hb F hk
  have hv : v0 = (f key).getD z := by
    rcases KL.find w hk es.toList F.keys with ⟨q1, q2⟩ | ⟨j, e0, q1, q2, q3⟩
    · have a1 : (Instr.lookup t (.map (some b)) key false).run P w = .ok z w := by
        simp [Instr.lookup, run_underlying ht, MapKept.run_getObj_map hb, KL.check w _ hk, q1, hz, Result.andThen]
      rw [a1] at hlook
      have a2 : ∃ s w', (Instr.mapEntry t (.map (some b)) key).run P w = .ok (.tuple #[z, s]) w' := ⟨_, _, by
        simp only [Instr.mapEntry, Sem.run_bind, run_underlying ht, MapKept.run_getObj_map hb, KL.check w false hk, q1, hz, MapKept.run_setObj_map _ hb, Result.andThen]
        rfl⟩
      obtain ⟨s, w', a2⟩ := a2
      rw [r1] at a2
      injection a2 with a2 _
      injection a2 with a2
      have a3 := congrArg (fun a : Array Value => a[0]?) a2
      simp at a3
      injection hlook with h1 _
      exact a3.trans h1
    · have a1 : (Instr.lookup t (.map (some b)) key false).run P w = .ok e0.val w := by
        simp [Instr.lookup, run_underlying ht, MapKept.run_getObj_map hb, KL.check w _ hk, q1, Result.andThen]
      rw [a1] at hlook
      have hj : es[j]? = some e0 := by simpa using q2
      have a2 : ∃ s w', (Instr.mapEntry t (.map (some b)) key).run P w = .ok (.tuple #[e0.val, s]) w' := ⟨_, _, by
        simp only [Instr.mapEntry, Sem.run_bind, run_underlying ht, MapKept.run_getObj_map hb, KL.check w false hk, q1, hj, q3, Option.map_some, Option.getD_some, KL.stays w hk, MapKept.run_setObj_map _ hb, Result.andThen]
        rfl⟩
      obtain ⟨s, w', a2⟩ := a2
      rw [r1] at a2
      injection a2 with a2 _
      injection a2 with a2
      have a3 := congrArg (fun a : Array Value => a[0]?) a2
      simp at a3
      injection hlook with h1 _
      exact a3.trans h1
  subst hv
  refine ⟨st, _, r1, grownBy_setBlock hlt, by simp [ChangeMaps.setBlock], fun w2 val g hw2 hg ho => ?_⟩
  rw [setBlock_at hlt] at hw2
  obtain ⟨es', clock', s1, s2⟩ := r2 w2 val hw2
  obtain ⟨w', t1, t2, _⟩ := hput val g hg ho
  rw [s2] at t1
  injection t1 with _ t1
  have hl2 : b < w2.heap.size := (Array.getElem?_eq_some_iff.1 hw2).1
  refine ⟨_, s1, ?_, grownBy_setBlock hl2, by simp [ChangeMaps.setBlock]⟩
  refine MapV.keep t2 ?_
  rw [setBlock_at hl2, ← t1, setBlock_at hlt]
end
end Go.Proofs.YtmcbnhkcjhlbaaaGreatDoor.Tp
end
