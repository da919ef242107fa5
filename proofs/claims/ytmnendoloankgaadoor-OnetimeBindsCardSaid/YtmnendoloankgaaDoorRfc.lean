/- The document's Secret, Input, Chain. -/
import Derived.Test.YtmnendoloankgaaDoorRft
import Derived.Test.YtmnendoloankgaaDoorRfn
import Derived.Test.YtmnendoloankgaaDoorSpl
import Derived.ArgAppend
namespace Go.Proofs.YtmnendoloankgaaDoor
set_option linter.unusedVariables false
set_option linter.unusedSimpArgs false
open Go.RowKit
open Kit (Chg)
open Sha (v)
open Go.Proofs.YtmnendoloankgaaDoor.One

theorem bvals_get (bs : List Nat) (j : Nat) (u : Value) (h : (bvals bs)[j]? = some u) : j < bs.length ∧ u = .int .u8 ((bs.getD j 0 : Nat) : Int) := by
  unfold bvals at h
  rw [List.getElem?_map] at h
  cases hj : bs[j]? with
  | none => rw [hj] at h; simp at h
  | some x =>
    rw [hj] at h
    simp only [Option.map_some, Option.some.injEq] at h
    have hl := (List.getElem?_eq_some_iff.1 hj).1
    exact ⟨hl, by rw [← h, List.getD_eq_getElem?_getD, hj]; rfl⟩
theorem bytes_cells {w : World} {ad : Addr} {bs : List Nat} (h : BytesAt w (some ad) bs) : ∀ j u, (bvals bs)[j]? = some u → w.cell? (ad.add j) = some u := by
  intro j u hu
  obtain ⟨hl, rfl⟩ := bvals_get bs j u hu
  obtain ⟨b, o, e, hc⟩ := h.some (by omega)
  cases e
  rw [add_none]
  exact hc j hl
section
variable {ops : Array Oper} {rest : List Oper} {o : Oper} {a : Act} {Q : Exit → Act → World → Prop}
/-- Bytes behind a slice that is full: a row of the call's own comes. -/
theorem app_full {w0 : World} (hgd : o.guard = none) (s x : Operand) (ho : o.op = .call { callee := .builtin .append, args := #[s, x], argTypes := #[68, 68] })
    (lb n cap : Nat) (cur : List Nat) (hn : cur.length = n) (hs : a.eval s = .slice (some ⟨lb, 0, none⟩) n cap) (hcur : BytesAt w0 (some ⟨lb, 0, none⟩) cur)
    (ao : Option Addr) (m c : Nat) (xs : List Nat) (hm : xs.length = m) (hx : a.eval x = .slice ao m c) (hB : BytesAt w0 ao xs) (hm0 : 0 < m) (hfull : cap < n + m) (hl : n + m ≤ 1000000)
    (h : ∀ v' w', w'.ownsRow w0.heap.size 5 1 v' (n + m) (bvals (cur ++ xs)) → Below w0.heap.size w0 w' → wpList Tryd.prog ops Q rest (a.put o.dst v') w') : wpList Tryd.prog ops Q (o :: rest) a w0 := by
  obtain ⟨i0, hi, hz0, hz1, hz2⟩ := info_parts Tryd.info5
  obtain ⟨b, off, rfl, hc⟩ := hB.some (by omega)
  refine wpList_append_grows w0 hgd s x 68 ho 5 i0 (.int .u8 0) 1 1 Tryd.underlying68 hi hz0 hz1 hz2 rfl (by decide) (some ⟨lb, 0, none⟩) n cap (bvals cur) hs (fun e => by cases e) (by rw [bvals_length, hn, Nat.mul_one]) (fun b' e j u hu => by cases e; exact bytes_cells hcur j u hu) ⟨b, off, none⟩ m c (bvals xs) hx (by rw [bvals_length, hm, Nat.mul_one]) (bytes_cells hB) (bvals_one _) hfull (by unfold maxLen; omega) (by omega) ?_
  intro v' w' hown hgr
  refine h v' w' (by rw [bvals_append]; exact hown) ?_
  exact (Chg.of_grown (M := fun _ _ => False) hgr (fun q _ e => by cases e)).below (Nat.le_refl _) (fun _ _ _ h => h)
end
set_option maxRecDepth 100000 in
set_option maxHeartbeats 1000000 in
theorem refSecret_ok (seed : ByteArray) (hs : seed.size = 32) (c : Nat) (hc : c ≤ 999) (w : World) :
    Calls Tryd.prog 31 #[.string seed, .int .i64 (c : Int)] w fun e w' => ∃ u : ByteArray, e = .returned (.string u) ∧ nb u = secret (nb seed) c ∧ Below w.heap.size w w' := by
  have HK : Hid (seed.size ≤ 64) := Lib.hid (by omega)
  have HNM := Lib.hid (fun w => refNumber_any c (by omega) w)
  have HNL : Hid ((num c).length ≤ 2) := Lib.hid (num_len (by omega))
  have HN0 : Hid (0 < (num c).length) := Lib.hid (by by_cases h : c < 128; · rw [num_small h]; exact Nat.zero_lt_one
                                                     · rw [num_big (by omega)]; exact Nat.succ_pos _)
  have HNB := Lib.hid (num_lt c)
  have HDB := Lib.hid (secretIn_lt c)
  have HDL := Lib.hid (secretIn_len hc)
  have HDE : Hid (secretB ++ num c = secretIn c) := rfl
  have HTE : Hid (tag (nb seed) (secretIn c) = secret (nb seed) c) := rfl
  obtain ⟨T, hT⟩ := ex_eq (secret (nb seed) c)
  obtain ⟨DS, hDS⟩ := ex_eq (secretIn c)
  obtain ⟨NM, hNM⟩ := ex_eq (num c)
  rw [hDS, hT] at HTE
  rw [hDS, hNM] at HDE
  rw [hDS] at HDB HDL
  rw [hNM] at HNM HNL HN0 HNB
  rw [hT]
  clear hs hT hDS hNM
  have hcl := conv_lit w #[.int .u8 115, .int .u8 101, .int .u8 99, .int .u8 114, .int .u8 101, .int .u8 116] 6 6
  go_enter Tryd.func31, Tryd.ntmps31
  have HLA : Hid (∀ fr, BytesAt (w.alloc (.cells #[.int .u8 115, .int .u8 101, .int .u8 99, .int .u8 114, .int .u8 101, .int .u8 116] 5 fr)) (some ⟨w.heap.size, 0, none⟩) secretB) := Lib.hid (fun fr => lit_alloc rfl (by decide) (by decide))
  go_wp2_with (first
    | (go_at_call 77
       (refine (HNM.out _).mono ?_)
       rintro e w3 ⟨v3, n3, rfl, hn3, h3, h4⟩
       have HB4 : Hid (BytesAt w3 (some ⟨w.heap.size, 0, none⟩) secretB) := Lib.hid ((HLA.out _).later h4)
       have H4 : Hid (Below w.heap.size w w3) := Lib.hid (((Below.refl _ w).alloc (Nat.le_refl _) _).trans (h4.mono (by simp)))
       obtain ⟨a3, cp3, rfl, hl3, hc3, hB3, hnil3, hlt3⟩ := own_bytes h3 HNB.out (by have := HNL.out; unfold maxLen; omega)
       have HL3 := Lib.hid hl3
       have HB3 := Lib.hid hB3
       clear hn3 h3 h4 hl3 hc3 hB3 hnil3 hlt3)
    | (at_builtin
       refine app_full rfl _ _ rfl w.heap.size 6 6 secretB rfl (by rfl) HB4.out a3 n3 cp3 NM HL3.out (by rfl) HB3.out (by have := HN0.out; have := HL3.out; omega) (by have := HN0.out; have := HL3.out; omega) (by have := HNL.out; have := HL3.out; omega) ?_
       intro v5 w5 ho5 hb5
       rw [HDE.out] at ho5
       obtain ⟨a5, cp5, rfl, hl5, hc5, hB5, hnil5, hlt5⟩ := own_bytes ho5 HDB.out (by have := HDL.out; unfold maxLen; omega)
       have HL5 := Lib.hid hl5
       have HB5 := Lib.hid hB5
       have HN5 := Lib.hid hnil5
       have H5 : Hid (Below w.heap.size w w5) := Lib.hid (H4.out.trans (hb5.mono H4.out.size))
       clear ho5 hb5 hl5 hc5 hB5 hnil5 hlt5)
    | (go_at_call 76
       (refine (refTag_l seed HK.out a5 cp5 DS _ HL5.out HN5.out (by have := HDL.out; have := HL5.out; omega) w5 HB5.out T HTE.out).mono ?_)
       rintro e w6 ⟨u, rfl, hu, h6⟩
       have HU := Lib.hid hu
       have H6 := Lib.hid (H5.out.trans (h6.mono H5.out.size))
       clear hu h6))
  go_ret
  exact ⟨u, rfl, HU.out, H6.out⟩
theorem conv_l {w : World} {a : Option Addr} {bs : List Nat} (h : BytesAt w a bs) {n : Nat} (hl : bs.length = n) (cap : Nat) {s : ByteArray} (hs : strB bs = s) : (convert 68 9 (.slice a n cap)).run Tryd.prog w = .ok (.string s) w := by
  subst hl hs
  exact conv_bytes h cap
theorem num_pos (n : Nat) : 0 < (num n).length := by
  by_cases h : n < 128
  · rw [num_small h]; exact Nat.zero_lt_one
  · rw [num_big (by omega)]; exact Nat.succ_pos _
theorem chain_lit : nb { data := #[99, 104, 97, 105, 110] } = chainB := rfl
set_option maxRecDepth 100000 in
set_option maxHeartbeats 1000000 in
theorem refInput_ok (i : Nat) (hi : i ≤ 999) (j : Nat) (hj : j ≤ 255) (x : ByteArray) (hx : x.size ≤ 1000000) (w : World) (T : List Nat) (hT : input i j (nb x) = T) :
    Calls Tryd.prog 79 #[.int .i64 (i : Int), .int .i64 (j : Int), .string x] w fun e w' => ∃ u : ByteArray, e = .returned (.string u) ∧ nb u = T ∧ Below w.heap.size w w' := by
  have HNI := Lib.hid (fun w => refNumber_any i (by omega) w)
  have HNJ := Lib.hid (fun w => refNumber_any j (by omega) w)
  have HLI : Hid ((num i).length ≤ 2) := Lib.hid (num_len (by omega))
  have HLJ : Hid ((num j).length ≤ 2) := Lib.hid (num_len (by omega))
  have HBI := Lib.hid (num_lt i)
  have HBJ := Lib.hid (num_lt j)
  have HT : Hid (chainB ++ (num i ++ (num j ++ nb x)) = T) := hT
  obtain ⟨NI, hNI⟩ := ex_eq (num i)
  obtain ⟨NJ, hNJ⟩ := ex_eq (num j)
  rw [hNI] at HNI HLI HBI HT
  rw [hNJ] at HNJ HLJ HBJ HT
  obtain ⟨sI, hsI⟩ := ex_eq (strB NI)
  obtain ⟨sJ, hsJ⟩ := ex_eq (strB NJ)
  have HSI : Hid (nb sI = NI) := Lib.hid (by rw [← hsI]; exact nb_strB HBI.out)
  have HSJ : Hid (nb sJ = NJ) := Lib.hid (by rw [← hsJ]; exact nb_strB HBJ.out)
  have hzI : sI.size ≤ 2 := by rw [← nb_length, HSI.out]; exact HLI.out
  have hzJ : sJ.size ≤ 2 := by rw [← nb_length, HSJ.out]; exact HLJ.out
  have HCI : Hid (strB NI = sI) := Lib.hid hsI
  have HCJ : Hid (strB NJ = sJ) := Lib.hid hsJ
  obtain ⟨s4, hs4⟩ := ex_eq ({ data := #[99, 104, 97, 105, 110] } ++ sI)
  have HS4 : Hid (nb s4 = chainB ++ NI) := Lib.hid (by rw [← hs4, nb_app, HSI.out, chain_lit])
  have hz4 : s4.size ≤ 7 := by rw [← nb_length, HS4.out, List.length_append, show chainB.length = 5 from rfl]; have := HLI.out; omega
  obtain ⟨s9, hs9⟩ := ex_eq (s4 ++ sJ)
  have HS9 : Hid (nb s9 = chainB ++ NI ++ NJ) := Lib.hid (by rw [← hs9, nb_app, HSJ.out, HS4.out])
  have hz9 : s9.size ≤ 9 := by rw [← nb_length, HS9.out, List.length_append, ← HS4.out, nb_length]; have := HLJ.out; omega
  have g4 : ¬ 9223372036854775807 < 5 + sI.size := by omega
  have g9 : ¬ 9223372036854775807 < s4.size + sJ.size := by omega
  have g11 : ¬ 9223372036854775807 < s9.size + x.size := by omega
  clear hT hNI hNJ hsI hsJ
  go_enter Tryd.func79, Tryd.ntmps79
  go_upto_region 1 with fail
  have hwi : IntKind.u64.wrap (i : Int) = (i : Int) := by rw [IntKind.wrap_u64]; omega
  have hwj : IntKind.u64.wrap (j : Int) = (j : Int) := by rw [IntKind.wrap_u64]; omega
  refine Kit.wp_region_splan (fun V => True) [(true, 0), (true, 1), (true, 5), (true, 6), (true, 10), (false, 2), (true, 3), (true, 4), (false, 7), (true, 8), (true, 9), (true, 11), (true, 12)] (by kernel_rfl) (by kernel_rfl) (by kernel_rfl) (by kernel_rfl) trivial ?_
  iterate 5 (refine Kit.splan_head (by rfl) (.inl ⟨by rfl, fun w' hS => by (dsimp only at hS); go_simp; (try with_reducible rfl)⟩) ?_; simp only [Act.put, List.setIfInBounds_toArray, List.set_cons_zero, List.set_cons_succ])
  refine Kit.splan_op (by rfl) (by rfl) fun K hK => ?_
  go_simp
  go_at_call 77
  refine (HNI.out _).mono ?_
  rintro e w2 ⟨v2, n2, rfl, hn2, ho2, h2⟩
  obtain ⟨a2, cp2, rfl, hl2, hc2, hB2, hnil2, hlt2⟩ := own_bytes ho2 HBI.out (by have := HLI.out; unfold maxLen; omega)
  have HL2 := Lib.hid hl2
  have HB2 := Lib.hid hB2
  have H2 : Hid (Below w.heap.size w w2) := Lib.hid ((Below.refl _ w).drew.trans h2)
  clear hn2 ho2 h2 hl2 hc2 hB2 hnil2 hlt2
  refine hK (fun V => BytesAt V a2 NI) (fun V _ => trivial) _ _ HB2.out ?_
  clear hK K
  refine Kit.splan_head (by rfl) (.inl ⟨by rfl, fun w' hS => by (dsimp only at hS); have hc := conv_l hS HL2.out cp2 HCI.out; go_simp; (try with_reducible rfl)⟩) ?_
  simp only [Act.put, List.setIfInBounds_toArray, List.set_cons_zero, List.set_cons_succ]
  refine Kit.splan_head (by rfl) (.inl ⟨by rfl, fun w' hS => by (dsimp only at hS); go_simp; (try with_reducible rfl)⟩) ?_
  simp only [Act.put, List.setIfInBounds_toArray, List.set_cons_zero, List.set_cons_succ]

  refine Kit.splan_op (by rfl) (by rfl) fun K hK => ?_
  go_simp
  go_at_call 77
  refine (HNJ.out _).mono ?_
  rintro e w3 ⟨v3, n3, rfl, hn3, ho3, h3⟩
  obtain ⟨a3, cp3, rfl, hl3, hc3, hB3, hnil3, hlt3⟩ := own_bytes ho3 HBJ.out (by have := HLJ.out; unfold maxLen; omega)
  have HL3 := Lib.hid hl3
  have HB3 := Lib.hid hB3
  have HB23 := Lib.hid (HB2.out.later h3)
  have H3 : Hid (Below w.heap.size w w3) := Lib.hid (H2.out.trans (h3.mono H2.out.size))
  clear hn3 ho3 h3 hl3 hc3 hB3 hnil3 hlt3
  refine hK (fun V => BytesAt V a2 NI ∧ BytesAt V a3 NJ) (fun V h => h.1) _ _ ⟨HB23.out, HB3.out⟩ ?_
  clear hK K
  refine Kit.splan_head (by rfl) (.inl ⟨by rfl, fun w' hS => by (dsimp only at hS); have hc := conv_l hS.2 HL3.out cp3 HCJ.out; go_simp; (try with_reducible rfl)⟩) ?_
  simp only [Act.put, List.setIfInBounds_toArray, List.set_cons_zero, List.set_cons_succ]
  refine Kit.splan_head (by rfl) (.inl ⟨by rfl, fun w' hS => by (dsimp only at hS); go_simp; (try with_reducible rfl)⟩) ?_
  simp only [Act.put, List.setIfInBounds_toArray, List.set_cons_zero, List.set_cons_succ]

  refine Kit.splan_head (by rfl) (.inl ⟨by rfl, fun w' hS => by (dsimp only at hS); go_simp; (try with_reducible rfl)⟩) ?_
  simp only [Act.put, List.setIfInBounds_toArray, List.set_cons_zero, List.set_cons_succ]
  refine Kit.splan_head (by rfl) (.inl ⟨by rfl, fun w' hS => by (dsimp only at hS); go_simp; (try with_reducible rfl)⟩) ?_
  simp only [Act.put, List.setIfInBounds_toArray, List.set_cons_zero, List.set_cons_succ]
  refine Kit.splan_done ?_
  (try simp only [Act.put, List.setIfInBounds_toArray, List.set_cons_zero, List.set_cons_succ])
  go_wp2_with fail
  go_ret
  refine ⟨_, rfl, ?_, H3.out⟩
  rw [← HT.out, nb_app, HS9.out]
  simp only [List.append_assoc]
theorem input_len2 (i j : Nat) (hi : i ≤ 999) (hj : j ≤ 255) (x : List Nat) : (input i j x).length ≤ 9 + x.length := by
  unfold input
  rw [List.length_append, List.length_append, List.length_append]
  have := num_len (n := i) (by omega)
  have := num_len (n := j) (by omega)
  have : chainB.length = 5 := rfl
  omega
set_option maxRecDepth 100000 in
set_option maxHeartbeats 2000000 in
theorem refChain_ok (i j m : Nat) (hi : i ≤ 999) (hjm : j ≤ m) (hm : m ≤ 256) (x : ByteArray) (hx : x.size ≤ 1000) (w : World) (T : List Nat) (hT : chain i j (m - j) (nb x) = T) :
    Calls Tryd.prog 32 #[.int .i64 (i : Int), .int .i64 (j : Int), .int .i64 (m : Int), .string x] w fun e w' => ∃ u : ByteArray, e = .returned (.string u) ∧ nb u = T ∧ Below w.heap.size w w' := by
  have HX := Lib.hid hx
  have HJM := Lib.hid hjm
  have HT := Lib.hid hT
  have HIN := Lib.hid (fun k hk u hu w => refInput_ok i hi k hk u hu w (input i k (nb u)) rfl)
  have HIL := Lib.hid (fun k hk u => input_len2 i k hi hk u)
  clear hx hT
  go_enter Tryd.func32, Tryd.ntmps32
  go_upto_region 2 with fail
  go_loopw [3, 9] (fun sx sk wr => ∃ (k : Nat) (u : ByteArray), j ≤ k ∧ k ≤ m ∧ sk = .int .i64 (k : Int) ∧ sx = .string u ∧ Hid (nb u = chain i j (k - j) (nb x)) ∧ Hid (u.size ≤ 1000) ∧ Hid (Below w.heap.size w wr)) (fun _ sk _ => m - (intOf sk).toNat)
  case atStart => exact ⟨j, x, Nat.le_refl _, HJM.out, rfl, rfl, by show _ = _; rw [Nat.sub_self]; rfl, HX.out, Below.refl _ _⟩
  case round =>
    obtain ⟨k, u, hjk, hkm, rfl, rfl, HU, HUS, HBE⟩ := hrel
    by_cases hlt : k < m
    · have hki : (k : Int) < (m : Int) := by omega
      have HCH : Hid (chain i j (k + 1 - j) (nb x) = Sha.sum (input i k (nb u))) := Lib.hid (by
        rw [show k + 1 - j = (k - j) + 1 by omega, chain_succ, show j + (k - j) = k by omega, HU.out])
      have HLE : Hid ((input i k (nb u)).length ≤ 1009) := Lib.hid (by have := HIL.out k (by omega) (nb u); rw [nb_length] at this; have := HUS.out; omega)
      have HIK := Lib.hid (fun w => HIN.out k (by omega) u (by have := HUS.out; omega) w)
      obtain ⟨I, hI⟩ := ex_eq (input i k (nb u))
      rw [hI] at HCH HLE HIK
      clear hI
      go_upto_region 4 with fail
      go_upto_region 3 with (first
        | (go_at_call 79
           (refine (HIK.out _).mono ?_)
           rintro e w2 ⟨u2, rfl, hu2, h2⟩
           have HU2 := Lib.hid hu2
           have H2 : Hid (Below w.heap.size w w2) := Lib.hid (HBE.out.trans (h2.mono HBE.out.size))
           obtain ⟨L2, hL2⟩ := ex_eq u2.size
           have HL2 := Lib.hid hL2
           have HL2b : Hid (L2 ≤ 1009) := Lib.hid (by rw [← hL2, ← nb_length, hu2]; exact HLE.out)
           obtain ⟨cp3, w3, hcv3, hle3, hB3, h3⟩ := str_at w2 u2 (by have := HL2b.out; unfold maxLen; omega) hL2
           have HB3 := Lib.hid hB3
           have H3 : Hid (Below w.heap.size w w3) := Lib.hid (H2.out.trans (h3.mono H2.out.size))
           clear hu2 h2 hL2 hle3 hB3 h3)
        | (go_at_call 78
           (refine (refSum_l (some ⟨w2.heap.size, 0, none⟩) cp3 (nb u2) L2 (by rw [nb_length]; exact HL2.out) (fun e => by cases e) (by have := HL2b.out; omega) w3 HB3.out).mono ?_)
           rintro e w4 ⟨u4, rfl, hu4, h4⟩
           have HU4 : Hid (nb u4 = Sha.sum I) := Lib.hid (by rw [hu4, HU2.out])
           have H4 : Hid (Below w.heap.size w w4) := Lib.hid (H3.out.trans (h4.mono H3.out.size))
           clear hu4 h4))
      go_wp2_with fail
      go_roundw
      case rel => exact ⟨k + 1, u4, by omega, by omega, by go_num, rfl, by show _ = _; rw [HU4.out, HCH.out], by show _ ≤ _; rw [← nb_length, HU4.out, Sha.sum_length]; omega, H4.out⟩
      case measure => simp [intOf]; omega
    · have hke : k = m := by omega
      have hki : ¬ (k : Int) < (m : Int) := by omega
      have HKE := Lib.hid hke
      clear hke
      go_wp2_with fail
      go_ret
      exact ⟨u, rfl, by rw [HU.out, HKE.out, HT.out], HBE.out⟩
end Go.Proofs.YtmnendoloankgaaDoor
