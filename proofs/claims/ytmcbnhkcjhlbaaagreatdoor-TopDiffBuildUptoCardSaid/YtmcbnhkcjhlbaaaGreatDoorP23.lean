/- Texts Tdu, Tdv, Tdw of the proof, each as a section; no premises beyond those that each theorem states. -/
import Derived.Test.YtmcbnhkcjhlbaaaGreatDoorP22
set_option linter.unusedVariables false
set_option linter.unusedSimpArgs false
section
namespace Go.Proofs.YtmcbnhkcjhlbaaaGreatDoor.Tp
open Go.RowKit
open Kit (Chg)
open Go.Maps
open Go.WideMaps
open Go.Proofs.YtmcbnhkcjhlbaaaGreatDoor.One

def CsAt (w : World) (a : Option Addr) (L : List CV) : Prop := RowsAt CV.cells 9 w a L ∧ ∀ c ∈ L, c.x.ok w
theorem CsAt.later {w w' : World} {a : Option Addr} {L : List CV} (h : CsAt w a L) (hb : Below w.heap.size w w') : CsAt w' a L := ⟨h.1.later CV.len hb, fun c hc => (h.2 c hc).later hb⟩
theorem CRow.at {w : World} {base : Nat} {v : Value} {L : List CV} (h : CRow w base v L) : ∃ a cap, v = .slice a L.length cap ∧ L.length ≤ cap ∧ CsAt w a L := by
  obtain ⟨a, cap, hv, _, h1, _, h3, _⟩ := rows_of_own CV.len (by decide) h.own
  exact ⟨a, cap, hv, h1, h3, h.ok⟩
theorem CsAt.nine {w : World} {a : Option Addr} {L : List CV} (h : CsAt w a L) (k : Nat) (hk : k < L.length) : ∃ b o, a = some ⟨b, o, none⟩ ∧ w.cell? ⟨b, o + k * 9, none⟩ = some (.int .i64 L[k].kind) ∧ w.cell? ⟨b, o + k * 9 + 1, none⟩ = some (.string L[k].path) ∧ w.cell? ⟨b, o + k * 9 + 2, none⟩ = some (.string L[k].frm) ∧ w.cell? ⟨b, o + k * 9 + 3, none⟩ = some (.string L[k].x.e.path) ∧ w.cell? ⟨b, o + k * 9 + 4, none⟩ = some (.int .i64 L[k].x.e.kind) ∧ w.cell? ⟨b, o + k * 9 + 5, none⟩ = some (.int .i64 L[k].x.e.mode) ∧ w.cell? ⟨b, o + k * 9 + 6, none⟩ = some (.int .i64 L[k].x.e.time) ∧ w.cell? ⟨b, o + k * 9 + 7, none⟩ = some (.slice L[k].x.a L[k].x.e.data.length L[k].x.c) ∧ w.cell? ⟨b, o + k * 9 + 8, none⟩ = some (.string L[k].x.e.link) := by
  obtain ⟨b, o, e, hc⟩ := h.1.one k hk
  exact ⟨b, o, e, hc 0 (by decide), hc 1 (by decide), hc 2 (by decide), hc 3 (by decide), hc 4 (by decide), hc 5 (by decide), hc 6 (by decide), hc 7 (by decide), hc 8 (by decide)⟩
theorem new_row9 {w : World} {c : CV} {T : TypeId} : (w.alloc (.cells c.row T)).heap[w.heap.size]? = some (.cells c.row T (0, 0)) := heap_alloc_new _ _
set_option maxRecDepth 100000 in
set_option maxHeartbeats 4000000 in
theorem check40_ok (ad : Option Addr) (n cap : Nat) (xs : List FV) (l : Option Addr) (m c : Nat) (L : List CV) (hn : xs.length = n) (hcap : n ≤ cap) (hnm : n ≤ 4096) (hm : L.length = m) (hmc : m ≤ c) (hm2 : m ≤ 20000) (w : World) (hX : FEsAt w ad xs) (hok : OkTree (xs.map FV.e)) (hL : CsAt w l L) (hg : ∀ x ∈ L, x.good) (hT : Top w) : Calls Tryz.prog 40 #[.slice ad n cap, .slice l m c] w fun e w' => e = .returned (.int .i64 0) ∧ Below w.heap.size w w' := by
  have HCK := Lib.hid (check_any ad n cap xs hn hcap hnm w hX (fun x hx => hok.ok _ (List.mem_map.2 ⟨x, hx, rfl⟩)) hok.asc hT)
  have HOT := Lib.hid hok
  have HL := Lib.hid hL
  have HM := Lib.hid hm
  have HG := Lib.hid hg
  have HT := Lib.hid hT
  clear hn hcap hX hok hL hg hT hm
  go_enter Tryz.func40, Tryz.ntmps40
  go_upto_region 5 with (first
    | (go_at_call 20
       (with_reducible refine HCK.out.mono ?_)
       rintro e W0 ⟨r, rfl, _, hr, hb⟩
       obtain rfl : r = 0 := hr HOT.out
       have HB0 := Lib.hid hb
       clear hr hb))
  go_loopw [15] (fun z wr => ∃ k : Nat, k ≤ m ∧ z = .int .i64 (k : Int) ∧ Hid (Below w.heap.size w wr)) (fun z _ => m - (intOf z).toNat)
  case atStart => exact ⟨0, Nat.zero_le _, rfl, HB0⟩
  case round =>
    obtain ⟨k, hk, rfl, HB⟩ := hrel
    by_cases hlt : k < m
    rotate_left
    · go_wp2_with fail
      go_ret
      exact ⟨rfl, HB.out⟩
    have hkx : k < L.length := by rw [HM.out]; exact hlt
    have HLW := Lib.hid (HL.out.later HB.out)
    obtain ⟨b, o, rfl, c0, c1, c2, c3, c4, c5, c6, c7, c8⟩ := HLW.out.nine k hkx
    obtain ⟨x, hx⟩ : ∃ x, L[k] = x := ⟨_, rfl⟩
    rw [hx] at c0 c1 c2 c3 c4 c5 c6 c7 c8
    have HVA : Hid (∀ V, Below w.heap.size w V → Calls Tryz.prog 85 #[.agg x.row] V fun e w' => e = .returned (.bool true) ∧ Below V.heap.size V w') := Lib.hid (fun V h => cvalid_ok x V (by rw [← hx]; exact (HL.out.2 _ (List.getElem_mem hkx)).later h) (by rw [← hx]; exact HG.out _ (List.getElem_mem hkx)) (HT.out.later h))
    clear hx
    obtain ⟨ck, cp, cf, ⟨path, kind, mode, time, data, link⟩, a, cc⟩ := x
    unfold CV.row at HVA
    dsimp only at c0 c1 c2 c3 c4 c5 c6 c7 c8 HVA
    go_upto_region 7 with fail
    refine wp_over (fun V => Hid (V.heap[wr.heap.size]? = some (.cells (CV.row (⟨ck, cp, cf, ⟨⟨path, kind, mode, time, data, link⟩, a, cc⟩⟩ : CV)) 114 (0, 0))) ∧ Hid (Below wr.heap.size wr V)) ⟨Lib.hid (new_row9 (c := (⟨ck, cp, cf, ⟨⟨path, kind, mode, time, data, link⟩, a, cc⟩⟩ : CV))), Lib.hid ((Below.refl _ _).alloc (Nat.le_refl _) _)⟩ ?_
    rintro W ⟨HR, HWB⟩
    clear c0 c1 c2 c3 c4 c5 c6 c7 c8
    obtain ⟨N, hN⟩ := ex_eq wr.heap.size
    rw [hN] at HR ⊢
    have HNW := Lib.hid hN
    clear hN
    obtain ⟨c0, c1, c2, c3, c4, c5, c6, c7, c8⟩ := row9 HR.out
    dsimp only at c0 c1 c2 c3 c4 c5 c6 c7 c8
    have HBW : Hid (Below w.heap.size w W) := Lib.hid (HB.out.trans (HWB.out.mono HB.out.size))
    go_wp2_with (first
      | (go_at_call 85
         (with_reducible refine (HVA.out _ HBW.out).mono ?_)
         rintro e W2 ⟨rfl, hb2⟩
         have HB2 : Hid (Below w.heap.size w W2) := Lib.hid (HBW.out.trans (hb2.mono HBW.out.size))
         clear hb2))
    go_roundw
    case rel => exact ⟨k + 1, by omega, by go_num, HB2⟩
    case measure => simp [intOf]; omega
set_option maxRecDepth 100000 in
set_option maxHeartbeats 4000000 in
theorem take_any (V1 b : Nat) (n : Nat) (m : Bs → Option FV) (s : ByteArray) (hs : s.size ≤ 4000000) (w : World) (hV : w.cell? ⟨V1, 0, none⟩ = some (.map (some b))) (hM : MapS w b n (entM m)) : Calls Tryz.prog 42 #[.string s, .pointer (some ⟨V1, 0, none⟩)] w fun e w' => e = .returned (.bool (m s.data.toList).isSome) ∧ MapS w' b n (entM (fun p => if p = s.data.toList then none else m p)) ∧ Chg (fun q _ => q = b) w w' := by
  have HM := Lib.hid hM
  have hz : ∀ V : World, (zeroValue 54).run Tryz.prog V = .ok fvZero.val V := fun V => by kernel_rfl
  have hlook := hM.look (t := 109) (e := 54) Tryz.underlying109 (hz w) s (size_maxLen hs)
  rw [entM_getD, entM_isSome] at hlook
  obtain ⟨ov, hov⟩ := ex_eq ((m s.data.toList).getD fvZero)
  obtain ⟨th, hth⟩ := ex_eq (m s.data.toList).isSome
  rw [hov, hth] at hlook
  rw [hth]
  obtain ⟨⟨pathO, kindO, modeO, timeO, dataO, linkO⟩, daO, dcO⟩ := ov
  unfold FV.val FV.row at hlook
  dsimp only at hlook
  have hVl := World.block_lt_of_cell? _ _ hV
  clear hov hth hM hz
  go_enter Tryz.func42, Tryz.ntmps42
  go_upto_region 2 with fail
  clear hlook
  refine wp_over (fun W => Hid (Below w.heap.size w W)) (Lib.hid ((Below.refl _ _).alloc (Nat.le_refl _) _)) ?_
  rintro W HB
  have hV2 : W.cell? ⟨V1, 0, none⟩ = some (.map (some b)) := (HB.out.cell (p := ⟨V1, 0, none⟩) hVl).trans hV
  clear hV
  obtain ⟨W3, hdel, hm3, hg3, hs3⟩ := (HM.out.later HB.out).del (t := 109) (e := 54) Tryz.underlying109 s (size_maxLen hs) 0
  have HM3 := Lib.hid hm3
  have HG3 := Lib.hid hg3
  clear hm3 hg3 hs3
  go_wp2_with fail
  go_ret
  refine ⟨rfl, HM3.out.congr (fun p => ?_), (Chg.of_below HB.out).trans (Chg.of_grown HG3.out (fun q _ e => (Option.some.inj e).symm))⟩
  unfold entM
  dsimp only
  by_cases h : p = s.data.toList <;> simp [h]
def overM (ms md : Bs → Option FV) (p : Bs) : Option FV := match ms p with
  | some x => some x
  | none => md p
set_option maxRecDepth 100000 in
set_option maxHeartbeats 4000000 in
theorem mapsCopy_any (bd bs nd ns : Nat) (md ms : Bs → Option FV) (ps : List Bs) (hps : ∀ p, (ms p).isSome = true → p ∈ ps) (hlen : ps.length ≤ 10000) (hsz : ∀ p ∈ ps, p.length ≤ 4000000) (hnd : nd ≤ 100000) (w : World) (hd : MapS w bd nd (entM md)) (hs : MapS w bs ns (entM ms)) (hne : bd ≠ bs) : Calls Tryz.prog 44 #[.map (some bd), .map (some bs)] w fun e w' => e = .returned (.tuple #[]) ∧ MapS w' bd (nd + 10000) (entM (overM ms md)) ∧ Chg (fun q _ => q = bd) w w' := by
  have HPS := Lib.hid hps
  have HLEN := Lib.hid hlen
  have HSZ := Lib.hid hsz
  have HD := Lib.hid hd
  have HLB := Lib.hid (And.intro hd.lt hs.lt)
  obtain ⟨w0, hrun0, ⟨cnt0, hr0⟩, hb0, hs0⟩ := MapV.range (t := 109) (e := 54) hs strK Tryz.underlying109
  have HR0 := Lib.hid hr0
  have HB0 := Lib.hid hb0
  have HS0 := Lib.hid hs0
  clear hps hlen hsz hd hs hr0 hb0 hs0
  go_enter Tryz.func44, Tryz.ntmps44
  go_upto_region 1 with fail
  clear hrun0
  obtain ⟨rr, hrr⟩ := ex_eq w.heap.size
  have HRR := Lib.hid hrr
  rw [hrr] at HR0 HS0 ⊢
  clear hrr
  go_loopw [4] (fun _ wr => ∃ (lf : Value → Prop) (cnt : Nat) (m' : Bs → Option FV) (R : List Bs), Hid (RangeV Tryz.prog 9 wr bs rr ns (liftS (entM ms)) lf cnt) ∧ Hid (MapS wr bd (nd + R.length) (entM m')) ∧ Hid (R.Nodup ∧ ∀ p ∈ R, p ∈ ps ∧ ¬ lf (strVal p)) ∧ Hid (∀ p, (m' p = md p ∧ (ms p = none ∨ lf (strVal p))) ∨ (m' p = ms p ∧ (ms p).isSome = true)) ∧ Hid (Chg (fun q _ => q = bd) w wr) ∧ Hid (rr + 1 ≤ wr.heap.size)) (fun _ wr => wr.rangeLeft bs rr)
  case atStart =>
    refine ⟨_, cnt0, md, [], HR0, Lib.hid (HD.out.later HB0.out), Lib.hid ⟨List.nodup_nil, by simp⟩, Lib.hid (fun p => .inl ⟨rfl, ?_⟩), Lib.hid (Chg.of_below HB0.out), Lib.hid (Nat.le_of_eq HS0.out.symm)⟩
    cases h : ms p with
    | none => exact .inl rfl
    | some x =>
      refine .inr ?_
      show (entM ms p).isSome = true
      rw [entM_isSome, h]
      rfl
  case round =>
    obtain ⟨lf, cnt, m', R, HRV, HMM, HRN, HMP, HCH, HRL⟩ := hrel
    have HRLN : Hid (R.length ≤ 10000) := Lib.hid (Nat.le_trans (nodup_len R ps HRN.out.1 (fun p hp => (HRN.out.2 p hp).1)) HLEN.out)
    rcases HRV.out.next strK 0 with ⟨hd, hrun⟩ | ⟨key, kl, v0, w1, cnt1, hk, hlf, hfv, hrun, hr1, hlt, hgr, hsz, hen⟩
    · have HFIN : Hid (∀ p, m' p = overM ms md p) := Lib.hid (fun p => by
        unfold overM
        rcases HMP.out p with ⟨h1, h2⟩ | ⟨h1, h2⟩
        · rcases h2 with h2 | h2
          · rw [h2]; exact h1
          · cases hp : ms p with
            | none => exact h1
            | some x =>
              have h3 := HSZ.out p (HPS.out p (by rw [hp]; rfl))
              refine absurd h2 (hd (strVal p) _ (keyS (s := ⟨p.toArray⟩) ?_))
              show p.toArray.size ≤ maxLen
              unfold maxLen
              simp
              omega
        · cases hp : ms p with
          | none => rw [hp] at h2; cases h2
          | some x => exact h1.trans hp)
      clear hd
      go_wp2_with fail
      go_end0
      refine ⟨rfl, (HMM.out.mono (by have := HRLN.out; omega)).congr (fun p => ?_), HCH.out⟩
      unfold entM
      rw [HFIN.out p]
    · obtain ⟨s, rfl, hsl⟩ := keyS_inv hk
      have hfv : entM ms s.data.toList = some v0 := hfv
      obtain ⟨y, hy, rfl⟩ := Option.map_eq_some_iff.1 hfv
      have HY := Lib.hid hy
      have HSL := Lib.hid hsl
      have HLF := Lib.hid hlf
      have HLT := Lib.hid hlt
      have HMM1 := Lib.hid (HMM.out.grown hgr (fun e => by have := Option.some.inj e; have := HLB.out; have := HRR.out; omega))
      have HR1 := Lib.hid hr1
      have HC1 : Hid (Chg (fun q _ => q = bd) w w1) := Lib.hid ((((HCH.out.mono (fun q _ _ e => .inl e)).trans (Chg.of_grown (M := fun q _ => q = bd ∨ q = rr) hgr (fun q _ e => .inr (Option.some.inj e).symm))) : Chg (fun q _ => q = bd ∨ q = rr) w w1).mono (fun q i hq e => by
        rcases e with e | e
        · exact e
        · have := HRR.out; omega))
      have HZ1 : Hid (rr + 1 ≤ w1.heap.size) := Lib.hid (by have := HRL.out; omega)
      obtain ⟨W3, hput, hm3, hg3, hs3⟩ := HMM1.out.put (t := 109) (e := 54) Tryz.underlying109 (by unfold maxLen; have := HRLN.out; omega) s hsl y.val
      have hal : Below w1.heap.size w1 (w1.alloc (.cells y.row 54)) := (Below.refl _ _).alloc (Nat.le_refl _) _
      clear hput hm3 hg3 hs3
      obtain ⟨W3, hput, hm3, hg3, hs3⟩ := (HMM1.out.later hal).put (t := 109) (e := 54) Tryz.underlying109 (by unfold maxLen; have := HRLN.out; omega) s hsl y.val
      have HM3 := Lib.hid hm3
      have HG3 := Lib.hid hg3
      have HS3 : Hid (W3.heap.size = w1.heap.size + 1) := Lib.hid (by rw [hs3]; simp)
      have HAL := Lib.hid hal
      have HNS : Hid (s.data.toList ∉ R) := Lib.hid (fun h => (HRN.out.2 _ h).2 HLF.out)
      obtain ⟨⟨path, kind, mode, time, data, link⟩, da, dc⟩ := y
      unfold FV.val FV.row at hrun hen hput
      dsimp only at hrun hen hput
      have hrow : (w1.alloc (.cells #[.string path, .int .i64 kind, .int .i64 mode, .int .i64 time, .slice da data.length dc, .string link] 54)).heap[w1.heap.size]? = _ := heap_alloc_new _ _
      clear hk hlf hfv hy hr1 hlt hgr hsz hm3 hg3 hs3 hal hrow
      go_wp2_with fail
      have HC3 : Hid (Chg (fun q _ => q = bd) w1 W3) := Lib.hid ((Chg.of_below HAL.out).trans (Chg.of_grown HG3.out (fun q _ e => (Option.some.inj e).symm)))
      have HR3 : Hid (RangeV Tryz.prog 9 W3 bs rr ns (liftS (entM ms)) (fun x => lf x ∧ x ≠ .string s) cnt1) := Lib.hid (HR1.out.keep (HC3.out.other bs HR1.out.lt.1 (fun _ e => hne e.symm)) (HC3.out.other rr HR1.out.lt.2 (fun _ e => by have := HLB.out; have := HRR.out; omega)))
      go_roundw
      case rel =>
        refine ⟨_, cnt1, fun p => if p = s.data.toList then ms p else m' p, R ++ [s.data.toList], HR3, Lib.hid ?_, Lib.hid ⟨nodup_snoc HRN.out.1 HNS.out, fun p hp => ?_⟩, Lib.hid (fun p => ?_), Lib.hid (HC1.out.trans HC3.out), Lib.hid (by have := HZ1.out; have := HS3.out; omega)⟩
        · refine (HM3.out.mono (by rw [List.length_append, List.length_singleton]; omega)).congr (fun p => ?_)
          unfold entM
          dsimp only
          by_cases e : p = s.data.toList
          · rw [e]
            simp [HY.out, FV.val, FV.row]
          · simp [e]
        · rcases List.mem_append.1 hp with h1 | h1
          · exact ⟨(HRN.out.2 p h1).1, fun h2 => (HRN.out.2 p h1).2 h2.1⟩
          · rw [List.mem_singleton] at h1
            subst h1
            exact ⟨HPS.out _ (by rw [HY.out]; rfl), fun h2 => h2.2 rfl⟩
        · by_cases e : p = s.data.toList
          · subst e
            refine .inr ⟨by simp, by rw [HY.out]; rfl⟩
          · simp only [if_neg e]
            rcases HMP.out p with ⟨h1, h2⟩ | h1
            · refine .inl ⟨h1, ?_⟩
              rcases h2 with h2 | h2
              · exact .inl h2
              · refine .inr ⟨h2, fun e2 => e ?_⟩
                have e3 : (⟨p.toArray⟩ : ByteArray) = s := by injection e2
                rw [← e3]
            · exact .inr h1
      case measure => rw [HR3.out.left_eq, HRV.out.left_eq]; exact HLT.out
theorem MapS.strKeys {w : World} {b n : Nat} {m : Bs → Option FV} (h : MapS w b n (entM m)) {ps : List Bs} (hnd : ps.Nodup) (hmem : ∀ p, (m p).isSome = true ↔ p ∈ ps) (hsz : ∀ p ∈ ps, p.length ≤ 4000000) : ∃ D, w.ownsMap Tryz.prog 9 rvQ b n D ∧ ps.Perm (strKeys D) := by
  obtain ⟨D, hown, hs⟩ := h
  refine ⟨D, hown, ?_⟩
  obtain ⟨es, hD, hpw, _⟩ := hown.entries strK
  obtain ⟨es', hD', hko⟩ := hown.keysOf
  obtain rfl : es = es' := by rw [hD] at hD'; simpa using hD'
  have hle := strKeys_le hown Tryz.underlying9
  subst hD
  refine perm_strKeys hpw (fun p hp => by obtain ⟨v, hv⟩ := hko p hp; obtain ⟨x, _, hx, _⟩ := Maps.keyOf_str Tryz.underlying9 hv; exact ⟨x, hx⟩) hnd (fun x => ?_)
  have key : ∀ x : Bs, x.length ≤ maxLen → (Maps.has (.map es) (.string x) = true ↔ x ∈ ps) := fun x hx => by
    have h1 := (hs (strVal x) _ (keyS (s := ⟨x.toArray⟩) (by show x.toArray.size ≤ _; simpa using hx))).1
    have h2 : (liftS (entM m) (strVal x)) = entM m x := rfl
    rw [h2, entM_isSome] at h1
    rw [← hmem x, ← h1]
  by_cases hx : x.length ≤ maxLen
  · exact (key x hx).symm
  · constructor
    · intro h1
      have := hsz x h1
      exact absurd (show x.length ≤ maxLen by unfold maxLen; omega) hx
    · intro h1
      rw [has_eq, List.any_eq_true] at h1
      obtain ⟨p, hp, h2⟩ := h1
      obtain ⟨v, hv⟩ := hko p hp
      obtain ⟨y, _, hy, hl⟩ := Maps.keyOf_str Tryz.underlying9 hv
      rw [hy] at h2
      have : y = x := by simpa [Lit.sameKey] using h2
      exact absurd (this ▸ hl) hx
set_option maxRecDepth 100000 in
set_option maxHeartbeats 4000000 in
theorem sortedFunc_any (Bm b n : Nat) (m : Bs → Option FV) (ps : List Bs) (hnd : ps.Nodup) (hmem : ∀ p, (m p).isSome = true ↔ p ∈ ps) (hsz : ∀ p ∈ ps, p.length ≤ 4000000) (hlen : ps.length ≤ 10000) (w : World) (hm : w.cell? ⟨Bm, 0, none⟩ = some (.map (some b))) (hM : MapS w b n (entM m)) :
    Calls Tryz.prog 87 #[.func (.func 138) #[] #[.pointer (some ⟨Bm, 0, none⟩)], .func (.func 52) #[] #[]] w fun e w' => ∃ (v : Value) (ys : List Bs), e = .returned v ∧ ys.Perm ps ∧ ys.Pairwise (fun a b => ¬ cmpP b a < 0) ∧ w'.ownsRow w.heap.size 9 1 v ys.length (ys.map encStr) ∧ Below w.heap.size w w' := by
  obtain ⟨D, hown, hperm⟩ := hM.strKeys hnd hmem hsz
  have hsize : Maps.size D = ps.length := by
    rw [hperm.length_eq]
    obtain ⟨es, rfl, _⟩ := hown.keysOf
    show es.length = (es.map fun p => strOf p.1).length
    rw [List.length_map]
  have hBm := World.block_lt_of_cell? _ _ hm
  have hseq : SeqGives Fence.wide 2 Tryz.prog 138 #[.pointer (some ⟨Bm, 0, none⟩)] encStr (fun ss => ss.Perm (strKeys D)) (Maps.size D) w :=
    AnyZ.keys_gives (ρ := keysE_ren) { keysE with } Fence.wide _ trivial rfl (by omega) Bm b n D w hBm hm hown
  have hcol0 := AnyZ.collect_in (ρ := collS_ren) collS Fence.wide 4 trivial trivial rfl (by omega) 138 #[.pointer (some ⟨Bm, 0, none⟩)] trivial (enters_of Tryz.func138 (by kernel_rfl) rfl) _ _ (by rw [hsize]; unfold maxLen; omega) (by rw [hsize]; omega) w hseq
  have hcol : Calls Tryz.prog 136 #[.func (.func 138) #[] #[.pointer (some ⟨Bm, 0, none⟩)]] w fun e w' => ∃ (v : Value) (ss : List Bs), e = .returned v ∧ ss.Perm (strKeys D) ∧ w'.ownsRow w.heap.size 9 1 v ss.length (ss.map encStr) ∧ (v = .slice none 0 0 ↔ ss = []) ∧ Below w.heap.size w w' := callsIn_wide.1 hcol0
  have HC := Lib.hid hcol
  have HPM := Lib.hid hperm
  have HSZ := Lib.hid hsz
  have HLN := Lib.hid hlen
  clear hcol hcol0 hseq hsize hown hperm hnd hmem hsz hlen hm hM hBm
  go_enter Tryz.func87, Tryz.ntmps87
  go_upto_region 2 with (first
    | (go_at_call 136
       (with_reducible refine HC.out.mono ?_)
       rintro e W1 ⟨v, ss, rfl, hss, hrow, _, hb⟩
       have HSS : Hid (ss.Perm ps) := Lib.hid (hss.trans HPM.out.symm)
       have HRW := Lib.hid hrow
       have HB := Lib.hid hb
       clear hss hrow hb))
  have HSO := Lib.hid (sortPaths_any v ss (by rw [HSS.out.length_eq]; have := HLN.out; omega) (fun c hc => HSZ.out c (HSS.out.mem_iff.1 hc)) W1 HRW.out)
  go_wp2_with (first
    | (go_at_call 137
       (with_reducible refine HSO.out.mono ?_)
       rintro e W2 ⟨rfl, ys, hys, hpw, hrow2, hch⟩
       have HYS := Lib.hid hys
       have HPW := Lib.hid hpw
       have HRW2 := Lib.hid hrow2
       have HCH := Lib.hid hch
       clear hys hpw hrow2 hch))
  go_ret
  refine ⟨v, rfl, ys, HYS.out.trans HSS.out, HPW.out, by rw [HYS.out.length_eq]; exact HRW2.out, HB.out.trans (HCH.out.below (HB.out.size) (fun q i hq e => ?_))⟩
  have := (HRW.out.lt q e.symm).1
  omega
end Go.Proofs.YtmcbnhkcjhlbaaaGreatDoor.Tp
end
section
namespace Go.Proofs.YtmcbnhkcjhlbaaaGreatDoor.Tp
open Go.RowKit
open Kit (Chg)
open Go.Maps
open Go.WideMaps
open Go.Proofs.YtmcbnhkcjhlbaaaGreatDoor.One

structure ERow (w : World) (base : Nat) (v : Value) (L : List FV) : Prop where
  own : w.ownsRow base 54 6 v L.length (L.flatMap FV.cells)
  ok : ∀ x ∈ L, x.ok w
  off : ∀ x ∈ L, x.e.data ≠ [] → ∀ ad, x.a = some ad → base ≤ ad.block ∧ v.ownBlock ≠ some ad.block
theorem ERow.later {w w' : World} {base : Nat} {v : Value} {L : List FV} (h : ERow w base v L) (hb : Below w.heap.size w w') : ERow w' base v L := ⟨own_later h.own hb, fun c hc => (h.ok c hc).later hb, h.off⟩
theorem ERow.snoc {w w' : World} {base : Nat} {v v' : Value} {L : List FV} {y : FV} {o : Obj} (h : ERow w base v L) (hy : y.ok w) (hoff : y.e.data ≠ [] → ∀ ad, y.a = some ad → base ≤ ad.block ∧ v.ownBlock ≠ some ad.block)
    (h1 : w'.ownsRow base 54 6 v' (L.length + 1) ((L ++ [y]).flatMap FV.cells)) (h2 : (w.alloc o).grownBy w' v.ownBlock) (h3 : v'.ownBlock = v.ownBlock ∨ v'.ownBlock = some (w.heap.size + 1)) : ERow w' base v' (L ++ [y]) := by
  have hc : Chg (fun q _ => v.ownBlock = some q) w w' := (Chg.alloc1 w o).trans (Chg.of_grown h2 (fun q _ e => e))
  have key : ∀ x : FV, x.ok w → (x.e.data ≠ [] → ∀ ad, x.a = some ad → base ≤ ad.block ∧ v.ownBlock ≠ some ad.block) → x.ok w' ∧ (x.e.data ≠ [] → ∀ ad, x.a = some ad → base ≤ ad.block ∧ v'.ownBlock ≠ some ad.block) := fun x hx ho => by
    refine ⟨hx.ok_chg hc (fun hd ad e i => (ho hd ad e).2), fun hd ad e => ⟨(ho hd ad e).1, ?_⟩⟩
    rcases h3 with h3 | h3
    · rw [h3]; exact (ho hd ad e).2
    · rw [h3]
      have := hx.blk hd ad e
      intro e2
      have := Option.some.inj e2
      omega
  refine ⟨by rw [List.length_append]; exact h1, fun c hc => ?_, fun c hc => ?_⟩
  · rcases List.mem_append.1 hc with h4 | h4
    · exact (key c (h.ok c h4) (h.off c h4)).1
    · rw [List.mem_singleton.1 h4]; exact (key y hy hoff).1
  · rcases List.mem_append.1 hc with h4 | h4
    · exact (key c (h.ok c h4) (h.off c h4)).2
    · rw [List.mem_singleton.1 h4]; exact (key y hy hoff).2
theorem ERow.at {w : World} {base : Nat} {v : Value} {L : List FV} (h : ERow w base v L) : ∃ a cap, v = .slice a L.length cap ∧ L.length ≤ cap ∧ FEsAt w a L := by
  obtain ⟨a, cap, hv, _, h1, _, h3, _⟩ := rows_of_own FV.len (by decide) h.own
  exact ⟨a, cap, hv, h1, h3, h.ok⟩
theorem mk_es (c : Nat) (hc : c ≤ 1000000) (w : World) : ∃ w', (Instr.makeSlice 22 (.int .i64 0) (.int .i64 (c : Int))).run Tryz.prog w = .ok (.slice (some ⟨w.heap.size, 0, none⟩) 0 c) w' ∧ w'.ownsRow w.heap.size 54 6 (.slice (some ⟨w.heap.size, 0, none⟩) 0 c) 0 [] ∧ w.grownBy w' none := by
  obtain ⟨i0, hi, hz0, hz1, hz2⟩ := info_parts3 kindFE.info
  exact run_makeSlice_owned (P := Tryz.prog) w w.heap.size 22 54 i0 feZ 6 Tryz.underlying22 hi hz0 hz1 .i64 .i64 c (by omega) (by rw [hz2]; omega) (by unfold maxLen; omega) (Nat.le_refl _)
theorem flat_enc : ∀ ys : List Bs, (ys.flatMap fun s : Bs => [encStr s]) = ys.map encStr
  | [] => rfl
  | a :: l => by rw [List.flatMap_cons, List.map_cons, flat_enc l]; rfl
def SortedP (m : Bs → Option FV) (ps : List Bs) (w : World) (e : Ending) (w' : World) : Prop := ∃ (v : Value) (L : List FV) (ys : List Bs) (B : Nat), e = .returned v ∧ w.heap.size ≤ B ∧ ys.Perm ps ∧ ys.Pairwise (fun a b => ¬ cmpP b a < 0) ∧ ERow w' B v L ∧ L.map (fun x => some x.e) = ys.map (fun p => (m p).map FV.e) ∧ Below w.heap.size w w'
set_option maxRecDepth 100000 in
set_option maxHeartbeats 4000000 in
theorem sorted_any (b n : Nat) (m : Bs → Option FV) (ps : List Bs) (hnd : ps.Nodup) (hmem : ∀ p, (m p).isSome = true ↔ p ∈ ps) (hsz : ∀ p ∈ ps, p.length ≤ 4000000) (hlen : ps.length ≤ 10000) (hn : n ≤ 1000000) (w : World) (hM : MapS w b n (entM m)) (hok : ∀ p x, m p = some x → x.ok w) : Calls Tryz.prog 45 #[.map (some b)] w (SortedP m ps w) := by
  have HM := Lib.hid hM
  have HOK := Lib.hid hok
  have HSZ := Lib.hid hsz
  have HME := Lib.hid hmem
  have HSF := Lib.hid (fun Bm V (h1 : V.cell? ⟨Bm, 0, none⟩ = some (.map (some b))) (h2 : Below w.heap.size w V) => sortedFunc_any Bm b n m ps hnd hmem hsz hlen V h1 (hM.later h2))
  have HKY : Hid (∀ V, Calls Tryz.prog 88 #[.map (some b)] V fun e w' => e = .returned (.func (.func 138) #[] #[.pointer (some ⟨V.heap.size, 0, none⟩)]) ∧ w' = V.alloc (.cells #[.map (some b)] 109)) := Lib.hid (fun V => callsIn_wide.1 (AnyZ.keys_in (ρ := keysE_ren) keysE Fence.wide 4 trivial rfl (some b) V))
  have HLN := Lib.hid hlen
  obtain ⟨es, clock, hes, hesn⟩ : ∃ es clock, w.heap[b]? = some (.map es clock) ∧ es.size ≤ n := by
    obtain ⟨D, ⟨es, clock, hb, _, hs, _⟩, _⟩ := hM
    exact ⟨es, clock, hb, hs⟩
  obtain ⟨c, hc⟩ := ex_eq es.size
  have hlenrun : ∀ ty, (Builtin.len_ #[109] ty #[.map (some b)]).run Tryz.prog w = .ok (.int .i64 (c : Int)) w := fun ty => by
    have h := run_len_map (P := Tryz.prog) (w := w) 109 ty b es clock (by kernel_rfl) hes
    rw [hc] at h
    exact h
  obtain ⟨w1, hmk, hown, hgr⟩ := mk_es c (by omega) w
  have HOWN := Lib.hid hown
  have HB1 : Hid (Below w.heap.size w w1) := Lib.hid ((Chg.of_grown (M := fun _ _ => False) hgr (fun q _ e => by cases e)).below (Nat.le_refl _) (fun q i hq e => e.elim))
  clear hnd hmem hsz hlen hn hM hok hes hesn hc hown hgr
  go_enter Tryz.func45, Tryz.ntmps45
  go_upto_region 2 with fail
  clear hlenrun hmk
  obtain ⟨v0, hv0⟩ := ex_eq (Value.slice (some ⟨w.heap.size, 0, none⟩) 0 c)
  rw [hv0] at HOWN ⊢
  clear hv0
  go_upto_region 3 with (first
    | (go_at_call 88
       (with_reducible refine (HKY.out _).mono ?_)
       rintro e W2 ⟨rfl, hW2⟩
       have HG2 : Hid (W2.cell? ⟨w1.heap.size, 0, none⟩ = some (.map (some b))) := Lib.hid (by rw [hW2]; exact (cell_of_row _ _ _ _ _ _ (heap_alloc_new _ _)).trans rfl)
       have HB2 : Hid (Below w1.heap.size w1 W2) := Lib.hid (by rw [hW2]; exact (Below.refl _ _).alloc (Nat.le_refl _) _)
       clear hW2
       have HSF2 := Lib.hid (HSF.out w1.heap.size W2 HG2.out (HB1.out.trans (HB2.out.mono HB1.out.size))))
    | (go_at_call 87
       (with_reducible refine HSF2.out.mono ?_)
       rintro e W3 ⟨u, ys, rfl, hys, hpw, hrow, hb3⟩
       have HYS := Lib.hid hys
       have HPW := Lib.hid hpw
       have HB3 := Lib.hid hb3
       obtain ⟨ua, uc, hu, _, hle, _, hat, _, huad⟩ := rows_of_own (f := fun s : Bs => [encStr s]) (n := 1) (fun _ => rfl) (by decide) (show W3.ownsRow W2.heap.size 9 1 u ys.length (ys.flatMap fun s : Bs => [encStr s]) by rw [show (ys.flatMap fun s : Bs => [encStr s]) = ys.map encStr from flat_enc ys]; exact hrow)
       subst hu
       have HAT := Lib.hid hat
       have HUA := Lib.hid huad
       clear hys hpw hb3 hrow hat huad))
  have HB13 : Hid (Below w.heap.size w W3) := Lib.hid ((HB1.out.trans (HB2.out.mono HB1.out.size)).trans (HB3.out.mono (by have := HB1.out.size; have := HB2.out.size; omega)))
  have HO3 : Hid (ERow W3 w.heap.size v0 []) := Lib.hid ⟨own_later (own_later HOWN.out HB2.out) HB3.out, by simp, by simp⟩
  obtain ⟨nk, hnk⟩ := ex_eq ys.length
  rw [hnk] at hle ⊢
  have HNK := Lib.hid hnk
  have HLN2 : Hid (nk ≤ 10000) := Lib.hid (by rw [← hnk, HYS.out.length_eq]; exact HLN.out)
  clear hnk
  go_loopw [3, 13] (fun v z wr => ∃ (k : Nat) (L : List FV), k ≤ nk ∧ z = .int .i64 (k : Int) ∧ Hid (ERow wr w.heap.size v L) ∧ Hid (L.map (fun x => some x.e) = (ys.take k).map (fun p => (m p).map FV.e)) ∧ Hid (Below w.heap.size w wr) ∧ Hid (RowsAt (fun s : Bs => [encStr s]) 1 wr ua ys ∧ ∀ ad, ua = some ad → ys ≠ [] → v.ownBlock ≠ some ad.block)) (fun _ z _ => nk - (intOf z).toNat)
  case atStart =>
    refine ⟨0, [], Nat.zero_le _, rfl, HO3, Lib.hid (by simp), HB13, Lib.hid ⟨HAT.out, ?_⟩⟩
    intro ad e _ e2
    have h1 := (HUA.out ad e).1
    have h2 := (HOWN.out.lt _ e2).2
    have := HB2.out.size
    omega
  case round =>
    obtain ⟨k, L, hk, rfl, HER, HMP, HB, HAT2⟩ := hrel
    by_cases hlt : k < nk
    rotate_left
    · have HMPX : Hid (L.map (fun x => some x.e) = ys.map (fun p => (m p).map FV.e)) := Lib.hid (by
        have h1 := HMP.out
        rw [List.take_of_length_le (by rw [HNK.out]; omega)] at h1
        exact h1)
      go_wp2_with fail
      go_ret
      exact ⟨u3, L, ys, w.heap.size, rfl, Nat.le_refl _, HYS.out, HPW.out.imp (fun h => by omega), HER.out, HMPX.out, HB.out⟩
    have hky : k < ys.length := by rw [HNK.out]; exact hlt
    have HKL : Hid (L.length = k) := Lib.hid (by
      have h1 := congrArg List.length HMP.out
      rw [List.length_map, List.length_map, List.length_take] at h1
      omega)
    obtain ⟨bq, oq, rfl, hcell⟩ := HAT2.out.1.one k hky
    have q0 := hcell 0 (by decide)
    rw [Nat.mul_one, Nat.add_zero] at q0
    obtain ⟨p, hp⟩ : ∃ p, ys[k] = p := ⟨_, rfl⟩
    rw [hp] at q0
    have HPS : Hid (p ∈ ps) := Lib.hid (by rw [← hp]; exact HYS.out.mem_iff.1 (List.getElem_mem hky))
    have HTK : Hid (ys.take (k + 1) = ys.take k ++ [p]) := Lib.hid (by rw [List.take_succ_eq_append_getElem hky, hp])
    obtain ⟨x, hx⟩ := Option.isSome_iff_exists.1 ((HME.out p).2 HPS.out)
    have HX := Lib.hid hx
    have HXO : Hid (x.ok w) := Lib.hid (HOK.out p x hx)
    have hz : ∀ V : World, (zeroValue 54).run Tryz.prog V = .ok fvZero.val V := fun V => by kernel_rfl
    have hpl : (⟨p.toArray⟩ : ByteArray).size ≤ maxLen := by
      have := HSZ.out p HPS.out
      show p.toArray.size ≤ maxLen
      unfold maxLen
      simp
      omega
    have hlook := (HM.out.later HB.out).look1 (t := 109) (e := 54) Tryz.underlying109 (hz wr) ⟨p.toArray⟩ hpl
    rw [entM_getD, show (⟨p.toArray⟩ : ByteArray).data.toList = p from rfl, hx] at hlook
    have HBL : Hid (bq < wr.heap.size) := Lib.hid (World.block_lt_of_cell? _ _ q0)
    have q0 : wr.cell? ⟨bq, oq + k, none⟩ = some (.string ⟨p.toArray⟩) := q0
    clear hcell hp hx hz hpl
    obtain ⟨⟨path, kind, mode, time, data, link⟩, da, dc⟩ := x
    have HCP := Lib.hid (copied_any (⟨⟨path, kind, mode, time, data, link⟩, da, dc⟩ : FV) wr (HXO.out.later HB.out))
    unfold FV.row at HCP
    dsimp only [Option.getD, FV.val, FV.row] at hlook HCP
    have hk6 : nk ≤ 10000 := HLN2.out
    go_upto_region 5 with fail
    go_wp2_with (first
      | (go_at_call 82
         (with_reducible refine HCP.out.mono ?_)
         rintro e W5 ⟨y, rfl, hye, hyo, hyf, hyb⟩
         obtain ⟨ye, ya, yc⟩ := y
         obtain rfl : ye = (⟨path, kind, mode, time, data, link⟩ : FE) := hye
         dsimp only
         have HYO := Lib.hid hyo
         have HYF := Lib.hid hyf
         have HYB := Lib.hid hyb
         clear hyo hyf hyb)
      | (at_builtin
         refine app_at kindFE rfl _ _ rfl w.heap.size u3 L.length L (by rfl) (own_later HER.out.own HYB.out) (by have := HB.out.size; have := HYB.out.size; omega) (by have := HKL.out; have := HLN2.out; omega) (⟨(⟨path, kind, mode, time, data, link⟩ : FE), ya, yc⟩ : FV) _ (by rfl) 1 (by rfl) ?_
         intro v' w9 h1 h2 h3
         have H1 := Lib.hid h1
         have H2 := Lib.hid h2
         have H3 := Lib.hid h3
         clear h1 h2 h3))
    have HE5 := Lib.hid (HER.out.later HYB.out)
    have HE9 : Hid (ERow w9 w.heap.size v' (L ++ [(⟨(⟨path, kind, mode, time, data, link⟩ : FE), ya, yc⟩ : FV)])) := Lib.hid (HE5.out.snoc HYO.out (fun hd ad e => by
      have h5 := HYF.out ad e
      refine ⟨Nat.le_trans HB.out.size h5, fun e2 => ?_⟩
      have h6 := (HER.out.own.lt _ e2).2
      (try simp only at h5)
      omega) H1.out H2.out H3.out)
    have HCH : Hid (Chg (fun q _ => u3.ownBlock = some q) wr w9) := Lib.hid ((Chg.of_below HYB.out).trans ((Chg.alloc1 W5 _).trans (Chg.of_grown H2.out (fun q _ e => e))))
    have HB9 : Hid (Below w.heap.size w w9) := Lib.hid (HB.out.trans (HCH.out.below HB.out.size (fun q i hq e => by have := (HER.out.own.lt q e).1; omega)))
    have HAT9 : Hid (RowsAt (fun s : Bs => [encStr s]) 1 w9 (some ⟨bq, oq, none⟩) ys ∧ ∀ ad, some (⟨bq, oq, none⟩ : Addr) = some ad → ys ≠ [] → v'.ownBlock ≠ some ad.block) := Lib.hid ⟨HAT2.out.1.chg (f := fun s : Bs => [encStr s]) (n := 1) (fun _ => rfl) HCH.out (fun ad e hne i => HAT2.out.2 ad e hne), fun ad e hne e2 => by
      rcases H3.out with h | h
      · rw [h] at e2
        exact HAT2.out.2 ad e hne e2
      · rw [h] at e2
        cases e
        have h8 : W5.heap.size + 1 = bq := Option.some.inj e2
        have := HYB.out.size
        have := HBL.out
        omega⟩
    have HMP9 : Hid ((L ++ [(⟨(⟨path, kind, mode, time, data, link⟩ : FE), ya, yc⟩ : FV)]).map (fun x => some x.e) = (ys.take (k + 1)).map (fun p => (m p).map FV.e)) := Lib.hid (by
      rw [HTK.out, List.map_append, List.map_append, HMP.out]
      simp [HX.out])
    go_roundw
    case rel => exact ⟨k + 1, L ++ [(⟨(⟨path, kind, mode, time, data, link⟩ : FE), ya, yc⟩ : FV)], by omega, by go_num, HE9, HMP9, HB9, HAT9⟩
    case measure => simp [intOf]; omega
end Go.Proofs.YtmcbnhkcjhlbaaaGreatDoor.Tp
end
section
namespace Go.Proofs.YtmcbnhkcjhlbaaaGreatDoor.Tp
open Go.RowKit
open Kit (Chg)
open Go.Proofs.YtmcbnhkcjhlbaaaGreatDoor.One

def m1F (xa : List FV) (Ls : List CV) (p : Bs) : Option FV := if p ∈ Ls.filterMap takeOf then none else findF xa p
def modF (Ls : List CV) : Bs → Option FV := findF ((Ls.filter fun c => decide (c.kind = 4)).map CV.x)
def addF (Ls : List CV) : Bs → Option FV := findF ((Ls.filter fun c => decide (c.kind = 2 ∨ c.kind = 3)).map CV.x)
theorem m1F_nil (xa : List FV) (p : Bs) : m1F xa [] p = findF xa p := by unfold m1F; simp
theorem m1F_take (xa : List FV) (Ls : List CV) (c : CV) {q : Bs} (h : takeOf c = some q) (p : Bs) : m1F xa (Ls ++ [c]) p = if p = q then none else m1F xa Ls p := by
  unfold m1F
  rw [fm_snoc, h]
  by_cases e : p = q
  · simp [e]
  · simp [e]
theorem m1F_none (xa : List FV) (Ls : List CV) (c : CV) (h : takeOf c = none) (p : Bs) : m1F xa (Ls ++ [c]) p = m1F xa Ls p := by
  unfold m1F
  rw [fm_snoc, h]
  simp
theorem filt_snoc (f : CV → Bool) (Ls : List CV) (c : CV) : (Ls ++ [c]).filter f = if f c = true then Ls.filter f ++ [c] else Ls.filter f := by
  rw [List.filter_append]
  by_cases h : f c = true <;> simp [h]
theorem modF_hit (Ls : List CV) (c : CV) (h : c.kind = 4) (p : Bs) : modF (Ls ++ [c]) p = if p = c.x.p then some c.x else modF Ls p := by
  unfold modF
  rw [filt_snoc, if_pos (by simpa using h), List.map_append, List.map_cons, List.map_nil, findF_snoc]
theorem modF_miss (Ls : List CV) (c : CV) (h : c.kind ≠ 4) : modF (Ls ++ [c]) = modF Ls := by
  unfold modF
  rw [filt_snoc, if_neg (by simpa using h)]
theorem addF_hit (Ls : List CV) (c : CV) (h : c.kind = 2 ∨ c.kind = 3) (p : Bs) : addF (Ls ++ [c]) p = if p = c.x.p then some c.x else addF Ls p := by
  unfold addF
  rw [filt_snoc, if_pos (by simpa using h), List.map_append, List.map_cons, List.map_nil, findF_snoc]
theorem addF_miss (Ls : List CV) (c : CV) (h : ¬ (c.kind = 2 ∨ c.kind = 3)) : addF (Ls ++ [c]) = addF Ls := by
  unfold addF
  rw [filt_snoc, if_neg (by simpa using h)]
theorem modF_some {Ls : List CV} {p : Bs} {x : FV} (h : modF Ls p = some x) : ∃ c ∈ Ls, c.kind = 4 ∧ c.x = x ∧ c.x.p = p := by
  obtain ⟨h1, h2⟩ := findF_some h
  obtain ⟨c, hc, rfl⟩ := List.mem_map.1 h1
  rw [List.mem_filter, decide_eq_true_eq] at hc
  exact ⟨c, hc.1, hc.2, rfl, h2⟩
theorem modF_none {Ls : List CV} {p : Bs} (h : modF Ls p = none) : ∀ c ∈ Ls, c.kind = 4 → c.x.p ≠ p := fun c hc hk => findF_none h c.x (List.mem_map.2 ⟨c, List.mem_filter.2 ⟨hc, by simpa using hk⟩, rfl⟩)
theorem addF_some {Ls : List CV} {p : Bs} {x : FV} (h : addF Ls p = some x) : ∃ c ∈ Ls, (c.kind = 2 ∨ c.kind = 3) ∧ c.x = x ∧ c.x.p = p := by
  obtain ⟨h1, h2⟩ := findF_some h
  obtain ⟨c, hc, rfl⟩ := List.mem_map.1 h1
  rw [List.mem_filter, decide_eq_true_eq] at hc
  exact ⟨c, hc.1, hc.2, rfl, h2⟩
theorem addF_none {Ls : List CV} {p : Bs} (h : addF Ls p = none) : ∀ c ∈ Ls, c.kind = 2 ∨ c.kind = 3 → c.x.p ≠ p := fun c hc hk => findF_none h c.x (List.mem_map.2 ⟨c, List.mem_filter.2 ⟨hc, by simpa using hk⟩, rfl⟩)
theorem m1F_some {xa : List FV} {Ls : List CV} {p : Bs} {x : FV} (h : m1F xa Ls p = some x) : p ∉ Ls.filterMap takeOf ∧ findF xa p = some x := by
  unfold m1F at h
  split at h
  · cases h
  · exact ⟨by assumption, h⟩
section
variable {xa : List FV} {bs : List FE} {L : List CV}
theorem take_fresh (f : CV → Option Bs) (h : (L.filterMap f).Nodup) {j : Nat} (hj : j < L.length) {q : Bs} (hq : f L[j] = some q) : q ∉ (L.take j).filterMap f := by
  intro hm
  have h1 : L = L.take j ++ L[j] :: L.drop (j + 1) := by rw [← List.drop_eq_getElem_cons hj, List.take_append_drop]
  rw [h1, List.filterMap_append, List.filterMap_cons, hq, List.nodup_append] at h
  exact h.2.2 q hm q (by simp) rfl
theorem find_in {e : FE} (ha : (xa.map FV.e).Pairwise (fun a b => cmpP a.p b.p < 0)) (he : e ∈ xa.map FV.e) : ∃ y, findF xa e.p = some y ∧ y.e = e ∧ y ∈ xa := by
  cases hf : findF xa e.p with
  | none =>
    obtain ⟨x, hx, rfl⟩ := List.mem_map.1 he
    exact absurd rfl (findF_none hf x hx)
  | some y =>
    obtain ⟨h1, h2⟩ := findF_some hf
    exact ⟨y, rfl, asc_inj ha (List.mem_map.2 ⟨y, h1, rfl⟩) he h2, h1⟩
theorem DiffOf.taken (h : DiffOf (xa.map FV.e) bs L) (ha : (xa.map FV.e).Pairwise (fun a b => cmpP a.p b.p < 0)) {j : Nat} (hj : j < L.length) {q : Bs} (hq : takeOf L[j] = some q) : (m1F xa (L.take j) q).isSome = true := by
  unfold m1F
  rw [if_neg (take_fresh takeOf h.tnd hj hq)]
  obtain ⟨e, he, hp, _⟩ := (h.tmem q).1 (List.mem_filterMap.2 ⟨L[j], List.getElem_mem hj, hq⟩)
  obtain ⟨y, hy, _⟩ := find_in ha he
  rw [← hp, hy]
  rfl
theorem DiffOf.moved (h : DiffOf (xa.map FV.e) bs L) (ha : (xa.map FV.e).Pairwise (fun a b => cmpP a.p b.p < 0)) {c : CV} (hc : c ∈ L) (hk : c.kind = 2) : ∃ y, findF xa c.frm.data.toList = some y ∧ y.e.kind = c.x.e.kind ∧ sameC y.e c.x.e = true ∧ y ∈ xa := by
  obtain ⟨o, ho, hp, h1, h2⟩ := h.src c hc hk
  obtain ⟨y, hy, he, hx⟩ := find_in ha ho
  refine ⟨y, ?_, by rw [he]; exact h1, by rw [he]; exact h2, hx⟩
  rw [← hp]
  exact hy
theorem DiffOf.fresh (h : DiffOf (xa.map FV.e) bs L) (ha : (xa.map FV.e).Pairwise (fun a b => cmpP a.p b.p < 0)) (hb : bs.Pairwise (fun a b => cmpP a.p b.p < 0)) {j : Nat} (hj : j < L.length) (hk : L[j].kind = 2 ∨ L[j].kind = 3) : overM (modF (L.take j)) (m1F xa L) L[j].p = none ∧ addF (L.take j) L[j].p = none := by
  have hc := List.getElem_mem hj
  obtain ⟨h1, h2⟩ := h.anew _ hc hk
  have hp : L[j].p = L[j].x.e.p := good_p (h.good _ hc) (by omega)
  constructor
  · have e1 : modF (L.take j) L[j].p = none := by
      cases hm : modF (L.take j) L[j].p with
      | none => rfl
      | some x =>
        obtain ⟨c', hc', hk', rfl, hp'⟩ := modF_some hm
        obtain ⟨h3, h4⟩ := h.mod c' (List.mem_of_mem_take hc') hk'
        have : c'.x.e = L[j].x.e := asc_inj hb h3 h1 (by rw [← hp]; exact hp')
        rw [this, h2] at h4
        cases h4
    unfold overM
    rw [e1]
    show m1F xa L L[j].p = none
    cases hm : m1F xa L L[j].p with
    | none => rfl
    | some y =>
      obtain ⟨h3, h4⟩ := m1F_some hm
      obtain ⟨h5, h6⟩ := findF_some h4
      refine absurd ((h.tmem L[j].p).2 ⟨y.e, List.mem_map.2 ⟨y, h5, rfl⟩, h6, ?_⟩) h3
      rw [keptB_false]
      intro o ho h7 h8
      have : o = L[j].x.e := asc_inj hb ho h1 (by rw [h7, ← hp]; exact h6)
      rw [keptB_false] at h2
      exact h2 y.e (List.mem_map.2 ⟨y, h5, rfl⟩) (by rw [← hp]; exact h6) (by rw [← this, h8])
  · cases hm : addF (L.take j) L[j].p with
    | none => rfl
    | some x =>
      obtain ⟨c', hc', hk', rfl, hp'⟩ := addF_some hm
      refine absurd (List.mem_filterMap.2 ⟨c', hc', ?_⟩) (take_fresh putOf h.pnd hj (q := L[j].p) (by unfold putOf; rw [if_pos hk]))
      unfold putOf
      rw [if_pos hk', good_p (h.good c' (List.mem_of_mem_take hc')) (by omega)]
      exact congrArg some hp'
theorem DiffOf.modded (h : DiffOf (xa.map FV.e) bs L) (ha : (xa.map FV.e).Pairwise (fun a b => cmpP a.p b.p < 0)) (hb : bs.Pairwise (fun a b => cmpP a.p b.p < 0)) {j : Nat} (hj : j < L.length) (hk : L[j].kind = 4) : (∃ y, overM (modF (L.take j)) (m1F xa L) L[j].p = some y ∧ y.e.kind = L[j].x.e.kind ∧ y ∈ xa) ∧ modF (L.take j) L[j].p = none := by
  have hc := List.getElem_mem hj
  obtain ⟨h1, h2⟩ := h.mod _ hc hk
  have hp : L[j].p = L[j].x.e.p := good_p (h.good _ hc) (by omega)
  have e1 : modF (L.take j) L[j].p = none := by
    cases hm : modF (L.take j) L[j].p with
    | none => rfl
    | some x =>
      obtain ⟨c', hc', hk', rfl, hp'⟩ := modF_some hm
      refine absurd (List.mem_filterMap.2 ⟨c', hc', ?_⟩) (take_fresh modOf h.mnd hj (q := L[j].p) (by unfold modOf; rw [if_pos hk]))
      unfold modOf
      rw [if_pos hk', good_p (h.good c' (List.mem_of_mem_take hc')) (by omega)]
      exact congrArg some hp'
  refine ⟨?_, e1⟩
  obtain ⟨o, ho, h3, h4⟩ := keptB_iff.1 h2
  obtain ⟨y, hy, he, hx⟩ := find_in ha ho
  refine ⟨y, ?_, by rw [he]; exact h4, hx⟩
  unfold overM
  rw [e1]
  show m1F xa L L[j].p = some y
  unfold m1F
  rw [if_neg, hp, ← h3]
  · exact hy
  · intro hm
    obtain ⟨e', he', hp', hk'⟩ := (h.tmem _).1 hm
    have : e' = o := asc_inj ha he' ho (by rw [hp', hp, h3])
    rw [this, keptB_false] at hk'
    exact hk' _ h1 h3.symm h4.symm
def finM (xa : List FV) (L : List CV) : Bs → Option FV := overM (addF L) (overM (modF L) (m1F xa L))
theorem DiffOf.fin (h : DiffOf (xa.map FV.e) bs L) (ha : (xa.map FV.e).Pairwise (fun a b => cmpP a.p b.p < 0)) (hb : bs.Pairwise (fun a b => cmpP a.p b.p < 0)) {e : FE} (he : e ∈ bs) : ∃ y, finM xa L e.p = some y ∧ y.e = e := by
  unfold finM
  by_cases hk : keptB (xa.map FV.e) e = true
  · have e1 : addF L e.p = none := by
      cases hm : addF L e.p with
      | none => rfl
      | some x =>
        obtain ⟨c', hc', hk', rfl, hp'⟩ := addF_some hm
        obtain ⟨h1, h2⟩ := h.anew c' hc' hk'
        have : c'.x.e = e := asc_inj hb h1 he hp'
        rw [this, hk] at h2
        cases h2
    unfold overM
    rw [e1]
    dsimp only
    cases hm : modF L e.p with
    | some x =>
      obtain ⟨c', hc', hk', rfl, hp'⟩ := modF_some hm
      exact ⟨c'.x, rfl, asc_inj hb (h.mod c' hc' hk').1 he hp'⟩
    | none =>
      dsimp only
      obtain ⟨o, ho, h3, h4⟩ := keptB_iff.1 hk
      obtain ⟨y, hy, hye, hx⟩ := find_in ha ho
      have heq : o = e := by
        by_cases heq : o = e
        · exact heq
        · have h5 := h.mall e he o ho h3 h4 heq
          obtain ⟨c', hc', hq⟩ := List.mem_filterMap.1 h5
          unfold modOf at hq
          split at hq
          · rename_i hk'
            have h6 := modF_none hm c' hc' hk'
            injection hq with hq
            rw [good_p (h.good c' hc') (by omega)] at hq
            exact absurd hq h6
          · cases hq
      refine ⟨y, ?_, by rw [hye, heq]⟩
      unfold m1F
      rw [if_neg, ← h3]
      · exact hy
      · intro hm2
        obtain ⟨e', he', hp', hk'⟩ := (h.tmem _).1 hm2
        have : e' = o := asc_inj ha he' ho (by rw [hp', h3])
        rw [this, keptB_false] at hk'
        exact hk' _ he h3.symm h4.symm
  · have hk : keptB (xa.map FV.e) e = false := by rw [Bool.eq_false_iff]; exact hk
    obtain ⟨c, hc, hq⟩ := List.mem_filterMap.1 (h.pall e he hk)
    unfold putOf at hq
    split at hq
    · rename_i hk'
      injection hq with hq
      rw [good_p (h.good c hc) (by omega)] at hq
      cases hm : addF L e.p with
      | none => exact absurd hq (addF_none hm c hc hk')
      | some x =>
        obtain ⟨c', hc', hk2, rfl, hp'⟩ := addF_some hm
        exact ⟨c'.x, by unfold overM; rw [hm], asc_inj hb (h.anew c' hc' hk2).1 he hp'⟩
    · cases hq
theorem DiffOf.finIn (h : DiffOf (xa.map FV.e) bs L) (ha : (xa.map FV.e).Pairwise (fun a b => cmpP a.p b.p < 0)) {p : Bs} (hp : (finM xa L p).isSome = true) : ∃ e ∈ bs, e.p = p := by
  unfold finM overM at hp
  cases hm : addF L p with
  | some x =>
    obtain ⟨c', hc', hk2, rfl, hp'⟩ := addF_some hm
    exact ⟨_, (h.anew c' hc' hk2).1, hp'⟩
  | none =>
    rw [hm] at hp
    dsimp only at hp
    cases hm2 : modF L p with
    | some x =>
      obtain ⟨c', hc', hk', rfl, hp'⟩ := modF_some hm2
      exact ⟨_, (h.mod c' hc' hk').1, hp'⟩
    | none =>
      rw [hm2] at hp
      dsimp only at hp
      obtain ⟨y, hy⟩ := Option.isSome_iff_exists.1 hp
      obtain ⟨h3, h4⟩ := m1F_some hy
      obtain ⟨h5, h6⟩ := findF_some h4
      by_cases hk : keptB bs y.e = true
      · obtain ⟨o, ho, h7, _⟩ := keptB_iff.1 hk
        exact ⟨o, ho, h7.trans h6⟩
      · exact absurd ((h.tmem p).2 ⟨y.e, List.mem_map.2 ⟨y, h5, rfl⟩, h6, by rw [Bool.eq_false_iff]; exact hk⟩) h3
theorem finM_ok {w : World} (hx : ∀ x ∈ xa, x.ok w) (hc : ∀ c ∈ L, c.x.ok w) {p : Bs} {x : FV} (h : finM xa L p = some x) : x.ok w := by
  unfold finM overM at h
  cases hm : addF L p with
  | some y =>
    rw [hm] at h
    cases h
    obtain ⟨c', hc', _, rfl, _⟩ := addF_some hm
    exact hc c' hc'
  | none =>
    rw [hm] at h
    dsimp only at h
    cases hm2 : modF L p with
    | some y =>
      rw [hm2] at h
      cases h
      obtain ⟨c', hc', _, rfl, _⟩ := modF_some hm2
      exact hc c' hc'
    | none =>
      rw [hm2] at h
      exact hx x (findF_some (m1F_some h).2).1
theorem nodup_paths (hb : bs.Pairwise (fun a b => cmpP a.p b.p < 0)) : (bs.map FE.p).Nodup := by
  rw [List.nodup_iff_pairwise_ne, List.pairwise_map]
  exact hb.imp (fun h => cmpP_lt_ne h)
theorem DiffOf.whole (h : DiffOf (xa.map FV.e) bs L) (ha : (xa.map FV.e).Pairwise (fun a b => cmpP a.p b.p < 0)) (hb : bs.Pairwise (fun a b => cmpP a.p b.p < 0)) {ys : List Bs} {xs : List FV} (hy : ys.Perm (bs.map FE.p)) (hs : ys.Pairwise (fun a b => ¬ cmpP b a < 0)) (hx : xs.map (fun x => some x.e) = ys.map (fun p => (finM xa L p).map FV.e)) : xs.map FV.e = bs := by
  have e1 : ys = bs.map FE.p := by
    refine List.Perm.eq_of_pairwise (le := fun a b => ¬ cmpP b a < 0) (fun a b _ _ h1 h2 => ?_) hs ?_ hy
    · rcases cmpP_range a b with q | q | q
      · exact absurd q (by omega)
      · exact cmpP_eq q
      · have := cmpP_anti a b
        omega
    · rw [List.pairwise_map]
      refine hb.imp (fun {a b} h => ?_)
      have := cmpP_anti a.p b.p
      omega
  rw [e1, List.map_map] at hx
  have e2 : bs.map ((fun p => (finM xa L p).map FV.e) ∘ FE.p) = bs.map some := by
    refine List.map_congr_left (fun e he => ?_)
    obtain ⟨y, hy, hye⟩ := h.fin ha hb he
    show (finM xa L e.p).map FV.e = some e
    rw [hy]
    exact congrArg some hye
  rw [e2] at hx
  have e3 : (xs.map FV.e).map some = bs.map some := by rw [List.map_map]; exact hx
  exact (List.map_inj_right (fun x y h => Option.some.inj h)).1 e3
end
end Go.Proofs.YtmcbnhkcjhlbaaaGreatDoor.Tp
end
